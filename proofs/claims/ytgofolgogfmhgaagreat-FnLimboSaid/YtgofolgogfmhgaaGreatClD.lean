/- Lemmas for the row of RwLm. -/
import Derived.Test.YtgofolgogfmhgaaGreatClC
set_option maxHeartbeats 4000000
set_option maxRecDepth 20000
namespace Go.Proofs.YtgofolgogfmhgaaGreat.Wk
open Go Go.RowKit Sl
set_option linter.unusedVariables false
set_option linter.unusedSimpArgs false
set_option maxRecDepth 20000
/-- what MustFlush answers -/
def mustFlush (c : Config) (t : Thread) : Bool := decide c.ok && (if c.policy = 2 then t.buffer.any (fun e => decide (e.key = t.op.key)) else decide (c.batch ≤ (t.buffer.length : Int)))
section
variable {c : Config} {t : Thread}
theorem mf_1 (h : ¬ c.ok) : mustFlush c t = false := by simp [mustFlush, h]
theorem mf_2 (h : c.ok) (h2 : ¬ c.policy = 2) : mustFlush c t = decide (c.batch ≤ (t.buffer.length : Int)) := by simp [mustFlush, h, h2]
theorem mf_3 (h : c.ok) (h2 : c.policy = 2) : mustFlush c t = t.buffer.any (fun e => decide (e.key = t.op.key)) := by simp [mustFlush, h, h2]
end
def takeS (s : Sl.State) (t : Sl.Thread) (p : Int) : Sl.State × Sl.Thread :=
  if t.pc = 30 then if s.config.capacity ≤ at0 s.cells 1 then (s, endT t 2 0) else (s, { t with seen := at0 s.cells 1, pc := 31 })
  else if t.pc = 31 then
    if (0 ≤ t.seen ∧ t.seen ≤ s.config.capacity - 1) ∧ hitB s.cells 1 t.seen = true then (swapS s 1 t.seen (IntKind.i64.wrap (t.seen + 1)), { t with node := makeHandle t.seen (at0 s.generations t.seen), pc := 32 })
    else ({ s with retries := IntKind.i64.wrap (s.retries + 1) }, { t with pc := 30 })
  else if t.pc = 32 then (putS (faultS s t.node) (cellOf s t.node 1) t.op.value, { t with pc := 33 })
  else if t.pc = 33 then (putS (faultS s t.node) (cellOf s t.node 0) 0, { t with pc := 34 })
  else if t.pc = 34 then (putS s (hazardCell s.config p 1) t.node, { t with pc := 35 })
  else (s, t)
def headS (s : Sl.State) (t : Sl.Thread) (p : Int) : Sl.State × Sl.Thread :=
  if t.pc = 35 then (s, { t with curr := unmarked (loadC s.cells (headCell s.config t.op.key)), pc := if unmarked (loadC s.cells (headCell s.config t.op.key)) = 0 then 41 else 36 })
  else if t.pc = 36 then (putS s (hazardCell s.config p 0) t.curr, { t with pc := 37 })
  else if t.pc = 37 then if loadC s.cells (headCell s.config t.op.key) = t.curr then (s, { t with pc := 38 }) else ({ s with retries := IntKind.i64.wrap (s.retries + 1) }, { t with pc := 35 })
  else if t.pc = 38 then (faultS s t.curr, { t with stamp := loadC s.cells (cellOf s t.curr 0), pc := if loadC s.cells (cellOf s t.curr 0) = 0 then 39 else 41 })
  else if t.pc = 39 then (s, { t with seen := at0 s.cells 0, pc := 40 })
  else if t.pc = 40 then (swapS (faultS s t.curr) (cellOf s t.curr 0) 0 t.seen, { t with pc := 38 })
  else if t.pc = 41 then (putS (faultS s t.node) (cellOf s t.node 2) t.curr, { t with pc := 42 })
  else if t.pc = 42 then
    if hitB s.cells (headCell s.config t.op.key) t.curr = true then (swapS s (headCell s.config t.op.key) t.curr t.node, { t with pc := 43 })
    else ({ swapS s (headCell s.config t.op.key) t.curr t.node with retries := IntKind.i64.wrap (s.retries + 1) }, { t with pc := 35 })
  else (s, t)
def newE (s : Sl.State) (t : Sl.Thread) : Entry := ⟨t.curr, t.op.key, t.stamp, loadC s.cells (cellOf s t.node 0)⟩
def ownS (s : Sl.State) (t : Sl.Thread) (p : Int) : Sl.State × Sl.Thread :=
  if t.pc = 43 then (s, { t with seen := at0 s.cells 0, pc := 44 })
  else if t.pc = 44 then (swapS (faultS s t.node) (cellOf s t.node 0) 0 t.seen, { t with pc := 45 })
  else if t.pc = 45 then (faultS s t.node, if (¬ t.curr = 0 ∧ isEntry (newE s t) = true) ∧ (t.buffer.length : Int) < 100 then { t with buffer := t.buffer ++ [newE s t], pc := 46 } else { t with pc := 46 })
  else if t.pc = 46 then (putS s (hazardCell s.config p 0) 0, { t with pc := 47 })
  else if t.pc = 47 then (putS s (hazardCell s.config p 1) 0, if mustFlush s.config t = true then { clearT t with pc := 50 } else endT t 0 0)
  else (s, t)
theorem swapS_no {s : Sl.State} {a u v : Int} (h : ¬ hitB s.cells a u = true) : swapS s a u v = s := by unfold swapS; rw [if_neg h, if_neg h]
theorem Fit.node {s : Sl.State} {t : Sl.Thread} (h : Fit s t) : int64 t.node := h.wt.2.2.2.2.1
theorem Fit.entry {s : Sl.State} {t : Sl.Thread} (h : Fit s t) : (newE s t).wf := ⟨h.curr, h.wt.2.1.2.1, h.wt.2.2.2.2.2.2.2.2.2.1, int64_loadC h.wc⟩
theorem specMustFlush_c {W : World} {c : Config} {t : Thread} {cs : List Value} (hm : threadEK.K W t cs) : Calls Tryz.prog 168 #[.agg c.enc.toArray, .agg cs.toArray] W (Ret fun v w' => v = .bool (mustFlush c t) ∧ Below W.heap.size W w') := by
 refine calls_fr Tryz.func168 rfl Tryz.ntmps168 rfl ?_
 intro a hF
 have hS := Sep.refl W
 obtain ⟨v0, v1, v2, v3, v4, rfl, r0, r1, r2, r3, r4⟩ := hm
 obtain ⟨A_b, q_b, rfl, hq_b, hn_b⟩ := r2.sl; unfold maxLen at hn_b
 refine ws fun K1 hK1 => ?_
 refine wl_box (cs := [_, _, _, _, _, _]) hF hS rfl (hF.ev rfl) rfl fun g1 w1 a hS _ hF => ?_
 refine wl_box (cs := [_, _, _, _, _, _, _, _, _, _, _, _, _, _, _, _, _, _, _]) hF hS rfl (hF.ev rfl) rfl fun g2 w2 a hS _ hF => ?_
 refine ge hK1 hF rfl fun a hF => ?_
 refine wp_seq_k fun K2 hK2 => ?_
 refine ws fun K3 hK3 => ?_
 refine gb 1 1 hF hS rfl rfl rfl fun a hF => ?_
 refine ckr hF hS rfl (specIsConfig_c _) fun w3 a hS hF => ?_
 refine ge hK3 hF rfl fun a hF => ?_
 refine cx 8 hF rfl (fun c8 hF => ?_) fun c8 hF => ?_
 ·
  refine rg hF rfl fun a hF => ?_
  refine wp_ret ?_
  refine xt ?_
  refine ret1 rfl hF rfl ⟨congrArg Value.bool (Eq.symm ?_), hS.old⟩
  first
    | exact mf_1 c8
    | exact mf_2 c8 c11
    | exact (mf_3 c8 c11).trans (any_yes hx (decide_eq_true c34))
    | exact (mf_3 c8 c11).trans (any_done hn (by omega))
 refine wp_skip ?_
 refine hK2 _ _ ?_
 refine wp_seq_k fun K5 hK5 => ?_
 refine rh 1 hF hS rfl rfl rfl fun a hF => ?_
 refine cx 11 hF rfl (fun c11 hF => ?_) fun c11 hF => ?_
 ·
  refine ws fun K7 hK7 => ?_
  refine gb 4 0 hF hS rfl rfl rfl fun a hF => ?_
  refine gf hK7 1 hF hS rfl rfl rfl fun a hF => ?_
  refine wp_ret ?_
  refine xt ?_
  refine ret1 rfl hF rfl ⟨congrArg Value.bool (Eq.symm ?_), hS.old⟩
  first
    | exact mf_1 c8
    | exact mf_2 c8 c11
    | exact (mf_3 c8 c11).trans (any_yes hx (decide_eq_true c34))
    | exact (mf_3 c8 c11).trans (any_done hn (by omega))
 refine wp_skip ?_
 refine hK5 _ _ ?_
 refine wp_seq_k fun K8 hK8 => ?_
 refine rg hF rfl fun a hF => ?_
 refine wp_block ?_
 have hL_ := ((hF.nil.keep hF (t := 4) rfl).keep hF (t := 3) rfl)
 refine wp_loop_r (σ := Nat) (fun k L_ => (5, vi k) :: L_) (fun k => (k ≤ t.buffer.length) ∧ ((t.buffer.take k).any (fun e => decide (e.key = t.op.key)) = false)) (fun k => t.buffer.length - k) 0 hS (hL_.keepE hF (t := 5) rfl rfl) ?_ ?_
 · exact ⟨Nat.zero_le _, by simp⟩
 rintro k a w4 ⟨hk, hn⟩ hS hF; try dsimp only at hF; try dsimp only at hS
 refine wp_seq_k fun K10 hK10 => ?_
 refine rh 0 hF hS rfl rfl rfl fun a hF => ?_
 refine cx 22 hF rfl (fun c22 hF => ?_) fun c22 hF => ?_
 ·
  have hlt : k < t.buffer.length := by omega
  have hx := at0_nat hlt
  refine wp_skip ?_
  refine hK10 _ _ ?_
  refine wp_seq_k fun K12 hK12 => ?_
  refine wp_block ?_
  refine wp_seq_k fun K13 hK13 => ?_
  refine wp_region_calm (by kernel_rfl) (by kernel_rfl) ?_
  refine qb 3 0 hF tk hS rfl rfl rfl fun a hF => ?_
  obtain ⟨g28, o28, m28, q28, hv28, hm28, hl28, hc28⟩ := Rd.atF (r2) (a := a) (X := .tmp 27) (hF.ev rfl) (by omega) (by omega)
  refine wq hF rfl rfl rfl (fun w_ hB_ => r_index sl40 ((hF.ev rfl).trans hv28) (hF.ev rfl) (by omega) (by first | omega | (simp at hm28; omega))) fun a hF => ?_
  refine qa 1 hF tk rfl fun a hF => ?_
  refine wq hF rfl rfl rfl (fun w_ hB_ => r_load1 sc3 (hF.ev rfl) (cellB (hS.ext hB_).old (hc28 1 _ rfl))) fun a hF => ?_
  refine qb 4 0 hF tk hS rfl rfl rfl fun a hF => ?_
  refine wpQuiet_nil ?_; intro w5 hB_; have hS := hS.ext hB_
  refine hK13 _ _ ?_
  refine cx 34 hF rfl (fun c34 hF => ?_) fun c34 hF => ?_
  ·
   refine rg hF rfl fun a hF => ?_
   refine wp_ret ?_
   refine xt ?_
   refine ret1 rfl hF rfl ⟨congrArg Value.bool (Eq.symm ?_), hS.old⟩
   first
     | exact mf_1 c8
     | exact mf_2 c8 c11
     | exact (mf_3 c8 c11).trans (any_yes hx (decide_eq_true c34))
     | exact (mf_3 c8 c11).trans (any_done hn (by omega))
  refine wp_skip ?_
  refine xt ?_
  refine hK12 _ _ ?_
  refine rl hF rfl fun a hF => ?_
  refine xt ?_
  refine ⟨k + 1, ⟨by omega, any_nxt hn hx (decide_eq_false c34)⟩, hS, (((hF.nil.keep hF (t := 4) rfl).keep hF (t := 3) rfl).keepE hF (t := 5) rfl (wk (by omega))), by omega⟩
 refine wp_exit ?_
 refine xt ?_
 refine hK8 _ _ ?_
 refine rg hF rfl fun a hF => ?_
 refine wp_ret ?_
 refine xt ?_
 refine ret1 rfl hF rfl ⟨congrArg Value.bool (Eq.symm ?_), hS.old⟩
 first
   | exact mf_1 c8
   | exact mf_2 c8 c11
   | exact (mf_3 c8 c11).trans (any_yes hx (decide_eq_true c34))
   | exact (mf_3 c8 c11).trans (any_done hn (by omega))
theorem l14Take_c {W w : World} {l : List Res} {g gt ot mt ct p : Nat} {z0 z1 : Slv} {s : Sl.State} {t : Sl.Thread} (hp : p < s.threads.length) (hf : Fit s t) (hS : Sep W (Box g ((s).encv (sv z0) (sv z1) (.slice (some ⟨gt, ot, none⟩) mt ct)) :: Own intEK (sv z0) (s).cells :: Own intEK (sv z1) (s).generations :: Own threadEK (.slice (some ⟨gt, ot, none⟩) mt ct) (s.threads.set p t) :: l) w) : Calls Tryz.prog 118 #[.pointer (some ⟨g, 0, none⟩), vi (p : Int)] w (Ret fun v w' => v = .tuple #[] ∧ Sep W (Box g (((takeS s t (p : Int)).1).encv (sv z0) (sv z1) (.slice (some ⟨gt, ot, none⟩) mt ct)) :: Own intEK (sv z0) ((takeS s t (p : Int)).1).cells :: Own intEK (sv z1) ((takeS s t (p : Int)).1).generations :: Own threadEK (.slice (some ⟨gt, ot, none⟩) mt ct) (s.threads.set p (takeS s t (p : Int)).2) :: l) w') := by
 refine calls_fr Tryz.func118 rfl Tryz.ntmps118 rfl ?_
 intro a hF
 have hl0 := hS.own_len (q := 1) rfl
 have hl1 := hS.own_len (q := 2) rfl
 have hmt : mt = s.threads.length := by have := hS.own_len (q := 3) (s := (some ⟨gt, ot, none⟩, mt, ct)) rfl; simpa using this
 have hlc := hf.two
 have hlg := hf.lg
 have hcb := hf.ok; unfold Config.ok at hcb
 have hwc : IntKind.i64.wrap (s.config.capacity - 1) = s.config.capacity - 1 := w64_id (by omega) (by omega)
 refine ws fun K1 hK1 => ?_
 refine gb 5 0 hF hS rfl rfl rfl fun a hF => ?_
 refine wl hF rfl rfl rfl (r_index sl27 (hF.ev rfl) (hF.ev rfl) (by omega) (by first | omega | (dsimp only; omega))) fun a hF => ?_
 refine ge hK1 hF rfl fun a hF => ?_
 refine ws fun K2 hK2 => ?_
 refine ga 3 hF rfl fun a hF => ?_
 refine wl hF rfl rfl rfl (r_load1 sc3 (hF.ev rfl) (hS.elt1 (q := 3) (j := 0) hp rfl (fun _ => rfl))) fun a hF => ?_
 refine wl_nil (hK2 _ _ ?_)
 refine wp_block ?_
 refine rg hF rfl fun a hF => ?_
 refine cx 15 hF rfl (fun c15 hF => ?_) fun c15 hF => ?_
 ·
  refine ws fun K4 hK4 => ?_
  refine gb 5 0 hF hS rfl rfl rfl fun a hF => ?_
  obtain ⟨g22, o22, m22, q22, hv22, hm22, hl22, hc22⟩ := Rd.atF ((hS.own_rd (i := 1) rfl)) (a := a) (X := .const (.int .i64 1)) ec (by omega) (by omega)
  refine wl hF rfl rfl rfl (r_index sl26 ((hF.ev rfl).trans hv22) ec (by omega) (by first | omega | (simp at hm22; omega))) fun a hF => ?_
  refine wl hF rfl rfl rfl (r_load1 sc3 (hF.ev rfl) (hc22 0 _ rfl)) fun a hF => ?_
  refine ga 2 hF rfl fun a hF => ?_
  refine wl_estore (q := 3) (j := 11) (⟨_, ⟨_, _, _⟩, ⟨_, _⟩, _, _, _, _, _, _, _, _, _, _, _, _, _⟩ : Sl.Thread) hF hS hp rfl sz3 (hF.ev rfl) rfl (hF.ev rfl) rfl (fun _ => rfl) (fun _ => by dsimp only [threadEK, Thread.encv, List.set] <;> rfl) (by intro _; rfl) fun w1 hS => ?_; dsimp only [List.set] at hS
  refine wl_nil (hK4 _ _ ?_)
  refine ws fun K5 hK5 => ?_
  refine ga 3 hF rfl fun a hF => ?_
  refine wl_estore (q := 3) (j := 0) (⟨_, ⟨_, _, _⟩, ⟨_, _⟩, _, _, _, _, _, _, _, _, _, _, _, _, _⟩ : Sl.Thread) hF hS hp rfl sz3 (hF.ev rfl) rfl ec rfl (fun _ => rfl) (fun _ => by dsimp only [threadEK, Thread.encv, List.set] <;> rfl) (by intro _; rfl) fun w2 hS => ?_; dsimp only [List.set] at hS
  refine wl_nil (hK5 _ _ ?_)
  refine wp_seq_k fun K6 hK6 => ?_
  refine wp_region_calm (by kernel_rfl) (by kernel_rfl) ?_
  refine qa 3 hF tk rfl fun a hF => ?_
  refine wq hF rfl rfl rfl (fun w_ hB_ => r_load1 sc3 (hF.ev rfl) ((hS.ext hB_).elt1 (q := 3) (j := 11) hp rfl (fun _ => rfl))) fun a hF => ?_
  refine qb 6 0 hF tk hS rfl rfl rfl fun a hF => ?_
  refine wpQuiet_nil ?_; intro w3 hB_; have hS := hS.ext hB_
  refine hK6 _ _ ?_
  refine cx 38 hF rfl (fun c38 hF => ?_) fun c38 hF => ?_
  ·
   refine wp_region_lit ?_
   refine ga 2 hF rfl fun a hF => ?_
   replace hS := Sep.headp (A := [_, _, _, _]) (B := [_, _, _, _]) hS [0, 3, 1, 2] (by decide) rfl rfl
   refine ck hF rfl (l10Finish_c (s := s) hp hS) ?_; rintro v w4 a ⟨rfl, hS⟩ hF
   refine wl_nil ?_
   refine xt ?_
   refine ret0n rfl hF ⟨rfl, ?_⟩
   unfold takeS
   rw [if_pos c15, if_pos c38]
   exact (Sep.headp (A := [_, _, _, _]) (B := [_, _, _, _]) hS [0, 2, 3, 1] (by decide) rfl rfl)
  refine wp_skip ?_
  refine xt ?_
  refine ret0n rfl hF ⟨rfl, ?_⟩
  unfold takeS
  rw [if_pos c15, if_neg c38]
  exact hS
 refine rg hF rfl fun a hF => ?_
 refine cx 42 hF rfl (fun c42 hF => ?_) fun c42 hF => ?_
 ·
  refine wp_seq_k fun K8 hK8 => ?_
  refine wp_seq_k fun K9 hK9 => ?_
  refine wp_region_J (is := [0, 1, 2, 3, 4, 5, 6, 7, 8, 9, 10, 11, 12, 13, 14, 15, 16, 17, 18, 19, 20, 21, 22, 23, 24, 25]) (fun (_ : Unit) r => r) _ (()) [23, 24, 25] (by kernel_rfl) hF hS (by kernel_rfl) ?_
  refine tj_pure (by kernel_rfl) rfl (gw0 rfl) rfl rfl (fun a w_ hF => r_move (hF.ev rfl)) ?_
  refine tj_pure (by kernel_rfl) rfl (gw0 rfl) rfl rfl (fun a w_ hF => r_nilCheck (hF.ev rfl)) ?_
  refine tj_pure (by kernel_rfl) rfl (gw0 rfl) rfl rfl (fun a w_ hF => r_field fo42_8 (hF.ev rfl)) ?_
  refine tj_load [10, 11, 12, 13, 14, 15, 16, 17, 18, 19, 20, 21, 22, 23, 24, 25] (by kernel_rfl) rfl (gw0 rfl) rfl rfl (fun a w_ x_ hF hS => r_load1 sc3 (hF.ev rfl) (hS.elt1 (q := 3) (j := 11) hp rfl (fun _ => rfl))) ?_
  refine tj_pure (by kernel_rfl) rfl (gw0 rfl) rfl rfl (fun a w_ hF => r_move (hF.ev rfl)) ?_
  refine tj_pure (by kernel_rfl) rfl (gw0 rfl) rfl rfl (fun a w_ hF => r_nilCheck (hF.ev rfl)) ?_
  refine tj_pure (by kernel_rfl) rfl (gw0 rfl) rfl rfl (fun a w_ hF => r_field fo29_0 (hF.ev rfl)) ?_
  refine tj_pure (by kernel_rfl) rfl (gw0 rfl) rfl rfl (fun a w_ hF => r_field fo25_2 (hF.ev rfl)) ?_
  refine tj_load [9, 10, 11, 12, 13, 14, 15, 16, 17, 18, 19, 20, 21, 22, 23, 24, 25] (by kernel_rfl) rfl (gw0 rfl) rfl rfl (fun a w_ x_ hF hS => r_load1 sc3 (hF.ev rfl) (hS.box (i := 0) rfl rfl)) ?_
  refine tj_pure (by kernel_rfl) rfl (gw0 rfl) rfl rfl (fun a w_ hF => r_sub (hF.ev rfl) ec) ?_
  refine tj_rd (by kernel_rfl) rfl (gw0 rfl) rfl rfl (fun a w_ hF => r_call3 en46 (hF.ev rfl) ec (hF.ev rfl)) (fun w_ hS => l1In_c _ _ _) ?_
  refine tj_pure (by kernel_rfl) rfl (gw0 rfl) rfl rfl (fun a w_ hF => r_not (hF.ev rfl)) ?_
  refine tj_pure (by kernel_rfl) rfl (gw0 rfl) rfl rfl (fun a w_ hF => r_move (hF.ev rfl)) ?_
  refine tj_split 56 rfl ?_ ?_ <;> intro b56 <;> try simp only [zb] at b56
  ·
   refine tj_skip (by kernel_rfl) rfl rfl rfl rfl rfl rfl rfl ?_
   refine tj_skip (by kernel_rfl) rfl rfl rfl rfl rfl rfl rfl ?_
   refine tj_skip (by kernel_rfl) rfl rfl rfl rfl rfl rfl rfl ?_
   refine tj_skip (by kernel_rfl) rfl rfl rfl rfl rfl rfl rfl ?_
   refine tj_skip (by kernel_rfl) rfl rfl rfl rfl rfl rfl rfl ?_
   refine tj_skip (by kernel_rfl) rfl rfl rfl rfl rfl rfl rfl ?_
   refine tj_skip (by kernel_rfl) rfl rfl rfl rfl rfl rfl rfl ?_
   refine tj_skip (by kernel_rfl) rfl rfl rfl rfl rfl rfl rfl ?_
   refine tj_skip (by kernel_rfl) rfl rfl rfl rfl rfl rfl rfl ?_
   refine tj_skip (by kernel_rfl) rfl rfl rfl rfl rfl rfl rfl ?_
   refine tj_fin (tl := [_, _, _]) (by kernel_rfl) rfl ?_; intro a w5 hF hS; try dsimp only at hS
   refine ga 3 hF rfl fun a hF => ?_
   refine wl_nil ⟨rfl, ?_⟩
   refine hK9 _ _ ?_
   refine wc_true (hF.ev rfl) ?_
   refine ws fun K10 hK10 => ?_
   refine gb 8 0 hF hS rfl rfl rfl fun a hF => ?_
   refine wv 0 hF hS rfl rfl rfl rfl rfl rfl fun w6 hS => ?_
   refine wl_nil (hK10 _ _ ?_)
   refine ws fun K11 hK11 => ?_
   refine ga 3 hF rfl fun a hF => ?_
   refine wl_estore (q := 3) (j := 0) (⟨_, ⟨_, _, _⟩, ⟨_, _⟩, _, _, _, _, _, _, _, _, _, _, _, _, _⟩ : Sl.Thread) hF hS hp rfl sz3 (hF.ev rfl) rfl ec rfl (fun _ => rfl) (fun _ => by dsimp only [threadEK, Thread.encv, List.set] <;> rfl) (by intro _; rfl) fun w7 hS => ?_; dsimp only [List.set] at hS
   refine wl_nil (hK11 _ _ ?_)
   refine wp_ret ?_
   refine xt ?_
   refine ret0 rfl hF ⟨rfl, ?_⟩
   unfold takeS
   rw [if_neg c15, if_pos c42, if_neg (fun h => by rw [hwc] at b56; exact b56 h.1)]
   exact hS
  refine tj_pure (by kernel_rfl) rfl (gw1 rfl rfl rfl rfl) rfl rfl (fun a w_ hF => r_move (hF.ev rfl)) ?_
  refine tj_pure (by kernel_rfl) rfl (gw1 rfl rfl rfl rfl) rfl rfl (fun a w_ hF => r_move (hF.ev rfl)) ?_
  refine tj_pure (by kernel_rfl) rfl (gw1 rfl rfl rfl rfl) rfl rfl (fun a w_ hF => r_nilCheck (hF.ev rfl)) ?_
  refine tj_pure (by kernel_rfl) rfl (gw1 rfl rfl rfl rfl) rfl rfl (fun a w_ hF => r_field fo42_8 (hF.ev rfl)) ?_
  refine tj_load [23, 24, 25] (by kernel_rfl) rfl (gw1 rfl rfl rfl rfl) rfl rfl (fun a w_ x_ hF hS => r_load1 sc3 (hF.ev rfl) (hS.elt1 (q := 3) (j := 11) hp rfl (fun _ => rfl))) ?_
  refine tj_pure (by kernel_rfl) rfl (gw1 rfl rfl rfl rfl) rfl rfl (fun a w_ hF => r_move (hF.ev rfl)) ?_
  refine tj_pure (by kernel_rfl) rfl (gw1 rfl rfl rfl rfl) rfl rfl (fun a w_ hF => r_nilCheck (hF.ev rfl)) ?_
  refine tj_pure (by kernel_rfl) rfl (gw1 rfl rfl rfl rfl) rfl rfl (fun a w_ hF => r_field fo42_8 (hF.ev rfl)) ?_
  refine tj_load [22, 23, 24, 25] (by kernel_rfl) rfl (gw1 rfl rfl rfl rfl) rfl rfl (fun a w_ x_ hF hS => r_load1 sc3 (hF.ev rfl) (hS.elt1 (q := 3) (j := 11) hp rfl (fun _ => rfl))) ?_
  refine tj_pure (by kernel_rfl) rfl (gw1 rfl rfl rfl rfl) rfl rfl (fun a w_ hF => r_add (hF.ev rfl) ec) ?_
  refine tj_fin (tl := [_, _, _]) (by kernel_rfl) rfl ?_; intro a w8 hF hS; try dsimp only at hS
  refine ck hF rfl (l9Swap_c (s := s) hS) ?_; rintro v w9 a ⟨rfl, hS⟩ hF
  refine ga 2 hF rfl fun a hF => ?_
  refine wl_nil ⟨rfl, ?_⟩
  refine hK9 _ _ ?_
  refine cx 69 hF rfl (fun c69 hF => ?_) fun c69 hF => ?_
  ·
   refine ws fun K12 hK12 => ?_
   refine gb 8 0 hF hS rfl rfl rfl fun a hF => ?_
   refine wv 0 hF hS rfl rfl rfl rfl rfl rfl fun w10 hS => ?_
   refine wl_nil (hK12 _ _ ?_)
   refine ws fun K13 hK13 => ?_
   refine ga 3 hF rfl fun a hF => ?_
   refine wl_estore (q := 3) (j := 0) (⟨_, ⟨_, _, _⟩, ⟨_, _⟩, _, _, _, _, _, _, _, _, _, _, _, _, _⟩ : Sl.Thread) hF hS hp rfl sz3 (hF.ev rfl) rfl ec rfl (fun _ => rfl) (fun _ => by dsimp only [threadEK, Thread.encv, List.set] <;> rfl) (by intro _; rfl) fun w11 hS => ?_; dsimp only [List.set] at hS
   refine wl_nil (hK13 _ _ ?_)
   refine wp_ret ?_
   refine xt ?_
   have hq : ¬ hitB s.cells 1 t.seen = true := fun h => by rw [h] at c69; simp at c69
   refine ret0 rfl hF ⟨rfl, ?_⟩
   unfold takeS
   rw [if_neg c15, if_pos c42, if_neg (fun h => hq h.2)]
   rw [swapS_no hq] at hS
   exact hS
  have hin : (0 ≤ t.seen ∧ t.seen ≤ s.config.capacity - 1) ∧ hitB s.cells 1 t.seen = true := ⟨by rw [hwc] at b56; exact b56, by simpa using c69⟩
  refine wp_skip ?_
  refine hK8 _ _ ?_
  refine wp_seq_k fun K14 hK14 => ?_
  refine wp_region_todo (is := [0, 1, 2, 3, 4, 5, 6, 7, 8, 9, 10, 11, 12, 13, 14, 15, 16, 17, 18]) [] [18] (by kernel_rfl) hF hS ⟨trivial, by decide, by decide, by decide⟩ (by kernel_rfl) ?_; intro hl_ wd hSd
  refine todo_pure hl_ (by kernel_rfl) rfl (gw0 rfl) rfl rfl rfl (fun a w_ hF => r_move (hF.ev rfl)) ?_
  refine todo_pure hl_ (by kernel_rfl) rfl (gw0 rfl) rfl rfl rfl (fun a w_ hF => r_move (hF.ev rfl)) ?_
  refine todo_pure hl_ (by kernel_rfl) rfl (gw0 rfl) rfl rfl rfl (fun a w_ hF => r_nilCheck (hF.ev rfl)) ?_
  refine todo_pure hl_ (by kernel_rfl) rfl (gw0 rfl) rfl rfl rfl (fun a w_ hF => r_field fo42_8 (hF.ev rfl)) ?_
  refine todo_load [15, 16, 17, 18] hl_ (by kernel_rfl) rfl (gw0 rfl) rfl rfl rfl (fun a w_ hF hB_ => r_load1 sc3 (hF.ev rfl) ((hSd.ext hB_).elt1 (q := 3) (j := 11) hp rfl (fun _ => rfl))) ?_
  refine todo_pure hl_ (by kernel_rfl) rfl (gw0 rfl) rfl rfl rfl (fun a w_ hF => r_move (hF.ev rfl)) ?_
  refine todo_pure hl_ (by kernel_rfl) rfl (gw0 rfl) rfl rfl rfl (fun a w_ hF => r_nilCheck (hF.ev rfl)) ?_
  refine todo_pure hl_ (by kernel_rfl) rfl (gw0 rfl) rfl rfl rfl (fun a w_ hF => r_field fo29_2 (hF.ev rfl)) ?_
  refine todo_load [13, 14, 15, 16, 17, 18] hl_ (by kernel_rfl) rfl (gw0 rfl) rfl rfl rfl (fun a w_ hF hB_ => r_load1 sc26 (hF.ev rfl) ((hSd.ext hB_).box (i := 0) rfl rfl)) ?_
  refine todo_pure hl_ (by kernel_rfl) rfl (gw0 rfl) rfl rfl rfl (fun a w_ hF => r_move (hF.ev rfl)) ?_
  refine todo_pure hl_ (by kernel_rfl) rfl (gw0 rfl) rfl rfl rfl (fun a w_ hF => r_nilCheck (hF.ev rfl)) ?_
  refine todo_pure hl_ (by kernel_rfl) rfl (gw0 rfl) rfl rfl rfl (fun a w_ hF => r_field fo42_8 (hF.ev rfl)) ?_
  refine todo_load [13, 14, 15, 16, 17, 18] hl_ (by kernel_rfl) rfl (gw0 rfl) rfl rfl rfl (fun a w_ hF hB_ => r_load1 sc3 (hF.ev rfl) ((hSd.ext hB_).elt1 (q := 3) (j := 11) hp rfl (fun _ => rfl))) ?_
  obtain ⟨g94, o94, m94, q94, hv94, hm94, hl94, hc94⟩ := Rd.idxF ((hSd.own_rd (i := 2) rfl)) (at0_get (i := t.seen) (by omega) (by omega))
  refine todo_pure hl_ (by kernel_rfl) rfl (gw0 rfl) rfl rfl rfl (fun a w_ hF => r_index sl26 ((hF.ev rfl).trans hv94) (hF.ev rfl) (by omega) (by first | omega | (simp at hm94; omega))) ?_
  refine todo_load [15, 16, 17, 18] hl_ (by kernel_rfl) rfl (gw0 rfl) rfl rfl rfl (fun a w_ hF hB_ => r_load1 sc3 (hF.ev rfl) (cellB hB_ (hc94 0 _ rfl))) ?_
  refine todo_rd hl_ rfl (by kernel_rfl) rfl rfl rfl rfl rfl (fun a w_ hF => r_call2 en50 (hF.ev rfl) (hF.ev rfl)) (fun w_ hS => specMakeHandle_c) ?_
  refine todo_pure hl_ (by kernel_rfl) rfl (gw0 rfl) rfl rfl rfl (fun a w_ hF => r_nilCheck (hF.ev rfl)) ?_
  refine todo_pure hl_ (by kernel_rfl) rfl (gw0 rfl) rfl rfl rfl (fun a w_ hF => r_field fo42_4 (hF.ev rfl)) ?_
  refine todo_fin hl_ rfl (by kernel_rfl) (tl := [_]) rfl ?_; intro a w12 hF hA_
  have hS := hA_.sep; clear hA_
  clear hl_; try clear hSd
  try dsimp only [List.cons_append, List.nil_append, List.set] at hS
  try clear wd
  refine wl_estore (q := 3) (j := 7) (⟨_, ⟨_, _, _⟩, ⟨_, _⟩, _, _, _, _, _, _, _, _, _, _, _, _, _⟩ : Sl.Thread) hF hS hp rfl sz3 (hF.ev rfl) rfl (hF.ev rfl) rfl (fun _ => rfl) (fun _ => by dsimp only [threadEK, Thread.encv, List.set] <;> rfl) (by intro _; rfl) fun w13 hS => ?_; dsimp only [List.set] at hS
  refine wl_nil ⟨rfl, ?_⟩
  refine hK14 _ _ ?_
  refine wp_region_lit ?_
  refine ga 3 hF rfl fun a hF => ?_
  refine wl_estore (q := 3) (j := 0) (⟨_, ⟨_, _, _⟩, ⟨_, _⟩, _, _, _, _, _, _, _, _, _, _, _, _, _⟩ : Sl.Thread) hF hS hp rfl sz3 (hF.ev rfl) rfl ec rfl (fun _ => rfl) (fun _ => by dsimp only [threadEK, Thread.encv, List.set] <;> rfl) (by intro _; rfl) fun w14 hS => ?_; dsimp only [List.set] at hS
  refine wl_nil ?_
  refine xt ?_
  refine ret0n rfl hF ⟨rfl, ?_⟩
  unfold takeS
  rw [if_neg c15, if_pos c42, if_pos hin]
  exact hS
 refine rg hF rfl fun a hF => ?_
 refine cx 102 hF rfl (fun c102 hF => ?_) fun c102 hF => ?_
 ·
  refine wp_seq_k fun K16 hK16 => ?_
  refine wp_region_J (is := [0, 1, 2, 3, 4, 5, 7, 8, 9, 10, 11, 6, 12]) (fun (f : Int) r => Box g (s.encf (sv z0) (sv z1) (.slice (some ⟨gt, ot, none⟩) mt ct) f) :: r) _ (s.faults) [12] (by kernel_rfl) hF hS (by kernel_rfl) ?_
  refine tj_pure (by kernel_rfl) rfl (gw0 rfl) rfl rfl (fun a w_ hF => r_move (hF.ev rfl)) ?_
  refine tj_pure (by kernel_rfl) rfl (gw0 rfl) rfl rfl (fun a w_ hF => r_move (hF.ev rfl)) ?_
  refine tj_pure (by kernel_rfl) rfl (gw0 rfl) rfl rfl (fun a w_ hF => r_move (hF.ev rfl)) ?_
  refine tj_pure (by kernel_rfl) rfl (gw0 rfl) rfl rfl (fun a w_ hF => r_nilCheck (hF.ev rfl)) ?_
  refine tj_pure (by kernel_rfl) rfl (gw0 rfl) rfl rfl (fun a w_ hF => r_field fo42_4 (hF.ev rfl)) ?_
  refine tj_load [6, 12] (by kernel_rfl) rfl (gw0 rfl) rfl rfl (fun a w_ x_ hF hS => r_load1 sc3 (hF.ev rfl) (hS.elt1 (q := 3) (j := 7) hp rfl (fun _ => rfl))) ?_
  refine tj_pure (by kernel_rfl) rfl (gw0 rfl) rfl rfl (fun a w_ hF => r_move (hF.ev rfl)) ?_
  refine tj_pure (by kernel_rfl) rfl (gw0 rfl) rfl rfl (fun a w_ hF => r_nilCheck (hF.ev rfl)) ?_
  refine tj_pure (by kernel_rfl) rfl (gw0 rfl) rfl rfl (fun a w_ hF => r_field fo42_1 (hF.ev rfl)) ?_
  refine tj_pure (by kernel_rfl) rfl (gw0 rfl) rfl rfl (fun a w_ hF => r_field fo31_2 (hF.ev rfl)) ?_
  refine tj_load [12] (by kernel_rfl) rfl (gw0 rfl) rfl rfl (fun a w_ x_ hF hS => r_load1 sc3 (hF.ev rfl) (hS.elt1 (q := 3) (j := 3) hp rfl (fun _ => rfl))) ?_
  refine tj_mc (by kernel_rfl) rfl (gw0 rfl) rfl rfl (fun a w_ hF => r_call3 en166 (hF.ev rfl) (hF.ev rfl) ec) (fun w_ hS => calls_unit (l9Cell_c (s := s) hf.node hf.lg (Sep.headp (A := [_, _, _, _]) (B := [_, _, _, _]) hS [0, 2, 1, 3] (by decide) rfl rfl))) (fun _ w_ h_ => ⟨_, (Sep.headp (A := [_, _, _, _]) (B := [_, _, _, _]) h_ [0, 2, 1, 3] (by decide) rfl rfl)⟩) ?_; intro _
  refine tj_fin (tl := [_]) (by kernel_rfl) rfl ?_; intro a w15 hF hS; try dsimp only at hS
  replace hS := Sep.headp (A := [_, _, _, _]) (B := [_, _, _, _]) hS [0, 2, 1, 3] (by decide) rfl rfl
  refine ck hF rfl (l9Put_c (s := faultS s t.node) hS) ?_; rintro v w16 a ⟨rfl, hS⟩ hF
  refine wl_nil ⟨rfl, ?_⟩
  refine hK16 _ _ ?_
  refine wp_region_lit ?_
  refine ga 3 hF rfl fun a hF => ?_
  refine wl_estore (q := 3) (j := 0) (⟨_, ⟨_, _, _⟩, ⟨_, _⟩, _, _, _, _, _, _, _, _, _, _, _, _, _⟩ : Sl.Thread) hF hS hp rfl sz3 (hF.ev rfl) rfl ec rfl (fun _ => rfl) (fun _ => by dsimp only [threadEK, Thread.encv, List.set] <;> rfl) (by intro _; rfl) fun w17 hS => ?_; dsimp only [List.set] at hS
  refine wl_nil ?_
  refine xt ?_
  refine ret0n rfl hF ⟨rfl, ?_⟩
  unfold takeS
  rw [if_neg c15, if_neg c42, if_pos c102]
  exact hS
 refine rg hF rfl fun a hF => ?_
 refine cx 120 hF rfl (fun c120 hF => ?_) fun c120 hF => ?_
 ·
  refine ws fun K18 hK18 => ?_
  refine ga 5 hF rfl fun a hF => ?_
  refine wl hF rfl rfl rfl (r_load1 sc3 (hF.ev rfl) (hS.elt1 (q := 3) (j := 7) hp rfl (fun _ => rfl))) fun a hF => ?_
  replace hS := Sep.headp (A := [_, _, _, _]) (B := [_, _, _, _]) hS [0, 2, 1, 3] (by decide) rfl rfl
  refine ck hF rfl (l9Cell_c (s := s) hf.node hf.lg hS) ?_; rintro v w18 a ⟨rfl, hS⟩ hF
  replace hS := Sep.headp (A := [_, _, _, _]) (B := [_, _, _, _]) hS [0, 2, 1, 3] (by decide) rfl rfl
  refine ck hF rfl (l9Put_c (s := faultS s t.node) hS) ?_; rintro v w19 a ⟨rfl, hS⟩ hF
  refine wl_nil (hK18 _ _ ?_)
  refine wp_region_lit ?_
  refine ga 3 hF rfl fun a hF => ?_
  refine wl_estore (q := 3) (j := 0) (⟨_, ⟨_, _, _⟩, ⟨_, _⟩, _, _, _, _, _, _, _, _, _, _, _, _, _⟩ : Sl.Thread) hF hS hp rfl sz3 (hF.ev rfl) rfl ec rfl (fun _ => rfl) (fun _ => by dsimp only [threadEK, Thread.encv, List.set] <;> rfl) (by intro _; rfl) fun w20 hS => ?_; dsimp only [List.set] at hS
  refine wl_nil ?_
  refine xt ?_
  refine ret0n rfl hF ⟨rfl, ?_⟩
  unfold takeS
  rw [if_neg c15, if_neg c42, if_neg c102, if_pos c120]
  exact hS
 refine rg hF rfl fun a hF => ?_
 refine cx 133 hF rfl (fun c133 hF => ?_) fun c133 hF => ?_
 ·
  refine wp_seq_k fun K20 hK20 => ?_
  refine wp_region_J (is := [0, 1, 2, 3, 4, 5, 7, 8, 9, 10, 6, 11]) (fun (_ : Unit) r => r) _ (()) [11] (by kernel_rfl) hF hS (by kernel_rfl) ?_
  refine tj_pure (by kernel_rfl) rfl (gw0 rfl) rfl rfl (fun a w_ hF => r_move (hF.ev rfl)) ?_
  refine tj_pure (by kernel_rfl) rfl (gw0 rfl) rfl rfl (fun a w_ hF => r_move (hF.ev rfl)) ?_
  refine tj_pure (by kernel_rfl) rfl (gw0 rfl) rfl rfl (fun a w_ hF => r_nilCheck (hF.ev rfl)) ?_
  refine tj_pure (by kernel_rfl) rfl (gw0 rfl) rfl rfl (fun a w_ hF => r_field fo29_0 (hF.ev rfl)) ?_
  refine tj_load [6, 11] (by kernel_rfl) rfl (gw0 rfl) rfl rfl (fun a w_ x_ hF hS => r_loadn ag25 (hF.ev rfl) (hS.boxn (vs := [_, _, _, _, _, _]) (i := 0) (m := 6) rfl rfl) sz25) ?_
  refine tj_pure (by kernel_rfl) rfl (gw0 rfl) rfl rfl (fun a w_ hF => r_move (hF.ev rfl)) ?_
  refine tj_pure (by kernel_rfl) rfl (gw0 rfl) rfl rfl (fun a w_ hF => r_move (hF.ev rfl)) ?_
  refine tj_pure (by kernel_rfl) rfl (gw0 rfl) rfl rfl (fun a w_ hF => r_nilCheck (hF.ev rfl)) ?_
  refine tj_pure (by kernel_rfl) rfl (gw0 rfl) rfl rfl (fun a w_ hF => r_field fo42_4 (hF.ev rfl)) ?_
  refine tj_load [11] (by kernel_rfl) rfl (gw0 rfl) rfl rfl (fun a w_ x_ hF hS => r_load1 sc3 (hF.ev rfl) (hS.elt1 (q := 3) (j := 7) hp rfl (fun _ => rfl))) ?_
  refine tj_rd (by kernel_rfl) rfl (gw0 rfl) rfl rfl (fun a w_ hF => r_call3 en109 (hF.ev rfl) (hF.ev rfl) ec) (fun w_ hS => specHazardCell_c _ _ _) ?_
  refine tj_fin (tl := [_]) (by kernel_rfl) rfl ?_; intro a w21 hF hS; try dsimp only at hS
  refine ck hF rfl (l9Put_c (s := s) hS) ?_; rintro v w22 a ⟨rfl, hS⟩ hF
  refine wl_nil ⟨rfl, ?_⟩
  refine hK20 _ _ ?_
  refine wp_region_lit ?_
  refine ga 3 hF rfl fun a hF => ?_
  refine wl_estore (q := 3) (j := 0) (⟨_, ⟨_, _, _⟩, ⟨_, _⟩, _, _, _, _, _, _, _, _, _, _, _, _, _⟩ : Sl.Thread) hF hS hp rfl sz3 (hF.ev rfl) rfl ec rfl (fun _ => rfl) (fun _ => by dsimp only [threadEK, Thread.encv, List.set] <;> rfl) (by intro _; rfl) fun w23 hS => ?_; dsimp only [List.set] at hS
  refine wl_nil ?_
  refine xt ?_
  refine ret0n rfl hF ⟨rfl, ?_⟩
  unfold takeS
  rw [if_neg c15, if_neg c42, if_neg c102, if_neg c120, if_pos c133]
  exact hS
 refine wp_skip ?_
 refine xt ?_
 refine ret0n rfl hF ⟨rfl, ?_⟩
 unfold takeS
 rw [if_neg c15, if_neg c42, if_neg c102, if_neg c120, if_neg c133]
 exact hS
theorem l14Head_c {W w : World} {l : List Res} {g gt ot mt ct p : Nat} {z0 z1 : Slv} {s : Sl.State} {t : Sl.Thread} (hp : p < s.threads.length) (hf : Fit s t) (hS : Sep W (Box g ((s).encv (sv z0) (sv z1) (.slice (some ⟨gt, ot, none⟩) mt ct)) :: Own intEK (sv z0) (s).cells :: Own intEK (sv z1) (s).generations :: Own threadEK (.slice (some ⟨gt, ot, none⟩) mt ct) (s.threads.set p t) :: l) w) : Calls Tryz.prog 119 #[.pointer (some ⟨g, 0, none⟩), vi (p : Int)] w (Ret fun v w' => v = .tuple #[] ∧ Sep W (Box g (((headS s t (p : Int)).1).encv (sv z0) (sv z1) (.slice (some ⟨gt, ot, none⟩) mt ct)) :: Own intEK (sv z0) ((headS s t (p : Int)).1).cells :: Own intEK (sv z1) ((headS s t (p : Int)).1).generations :: Own threadEK (.slice (some ⟨gt, ot, none⟩) mt ct) (s.threads.set p (headS s t (p : Int)).2) :: l) w') := by
 refine calls_fr Tryz.func119 rfl Tryz.ntmps119 rfl ?_
 intro a hF
 have hl0 := hS.own_len (q := 1) rfl
 have hl1 := hS.own_len (q := 2) rfl
 have hmt : mt = s.threads.length := by have := hS.own_len (q := 3) (s := (some ⟨gt, ot, none⟩, mt, ct)) rfl; simpa using this
 have hlc := hf.two
 refine ws fun K1 hK1 => ?_
 refine gb 5 0 hF hS rfl rfl rfl fun a hF => ?_
 refine wl hF rfl rfl rfl (r_index sl27 (hF.ev rfl) (hF.ev rfl) (by omega) (by first | omega | (dsimp only; omega))) fun a hF => ?_
 refine ge hK1 hF rfl fun a hF => ?_
 refine wp_seq_k fun K2 hK2 => ?_
 refine wp_region_calm (by kernel_rfl) (by kernel_rfl) ?_
 refine qa 3 hF tk rfl fun a hF => ?_
 refine wq hF rfl rfl rfl (fun w_ hB_ => r_loadn ag25 (hF.ev rfl) ((hS.ext hB_).boxn (vs := [_, _, _, _, _, _]) (i := 0) (m := 6) rfl rfl) sz25) fun a hF => ?_
 refine qa 4 hF tk rfl fun a hF => ?_
 refine wq hF rfl rfl rfl (fun w_ hB_ => r_load1 sc3 (hF.ev rfl) ((hS.ext hB_).elt1 (q := 3) (j := 2) hp rfl (fun _ => rfl))) fun a hF => ?_
 refine qk hF rfl (fun w_ hB_ => specHeadCell_c _ _) fun a hF => ?_
 refine qa 1 hF tk rfl fun a hF => ?_
 refine wpQuiet_nil ?_; intro w1 hB_; have hS := hS.ext hB_
 refine hK2 _ _ ?_
 refine ws fun K3 hK3 => ?_
 refine ga 3 hF rfl fun a hF => ?_
 refine wl hF rfl rfl rfl (r_load1 sc3 (hF.ev rfl) (hS.elt1 (q := 3) (j := 0) hp rfl (fun _ => rfl))) fun a hF => ?_
 refine wl_nil (hK3 _ _ ?_)
 refine wp_block ?_
 refine rg hF rfl fun a hF => ?_
 refine cx 26 hF rfl (fun c26 hF => ?_) fun c26 hF => ?_
 ·
  refine ws fun K5 hK5 => ?_
  refine ga 3 hF rfl fun a hF => ?_
  refine ckr hF hS rfl (l9LoadR_c (fun j u hu => hS.box7 (i := 0) rfl j u hu) (hS.own_rd (i := 1) rfl)) fun w2 a hS hF => ?_
  refine ckr hF hS rfl (specUnmarked_c (int64_loadC hf.wc)) fun w3 a hS hF => ?_
  refine ga 2 hF rfl fun a hF => ?_
  refine wl_estore (q := 3) (j := 9) (⟨_, ⟨_, _, _⟩, ⟨_, _⟩, _, _, _, _, _, _, _, _, _, _, _, _, _⟩ : Sl.Thread) hF hS hp rfl sz3 (hF.ev rfl) rfl (hF.ev rfl) rfl (fun _ => rfl) (fun _ => by dsimp only [threadEK, Thread.encv, List.set] <;> rfl) (by intro _; rfl) fun w4 hS => ?_; dsimp only [List.set] at hS
  refine wl_nil (hK5 _ _ ?_)
  refine ws fun K6 hK6 => ?_
  refine ga 3 hF rfl fun a hF => ?_
  refine wl_estore (q := 3) (j := 0) (⟨_, ⟨_, _, _⟩, ⟨_, _⟩, _, _, _, _, _, _, _, _, _, _, _, _, _⟩ : Sl.Thread) hF hS hp rfl sz3 (hF.ev rfl) rfl ec rfl (fun _ => rfl) (fun _ => by dsimp only [threadEK, Thread.encv, List.set] <;> rfl) (by intro _; rfl) fun w5 hS => ?_; dsimp only [List.set] at hS
  refine wl_nil (hK6 _ _ ?_)
  refine ws fun K7 hK7 => ?_
  refine ga 3 hF rfl fun a hF => ?_
  refine wl hF rfl rfl rfl (r_load1 sc3 (hF.ev rfl) (hS.elt1 (q := 3) (j := 9) hp rfl (fun _ => rfl))) fun a hF => ?_
  refine ge hK7 hF rfl fun a hF => ?_
  refine cx 42 hF rfl (fun c42 hF => ?_) fun c42 hF => ?_
  ·
   refine wp_region_lit ?_
   refine ga 3 hF rfl fun a hF => ?_
   refine wl_estore (q := 3) (j := 0) (⟨_, ⟨_, _, _⟩, ⟨_, _⟩, _, _, _, _, _, _, _, _, _, _, _, _, _⟩ : Sl.Thread) hF hS hp rfl sz3 (hF.ev rfl) rfl ec rfl (fun _ => rfl) (fun _ => by dsimp only [threadEK, Thread.encv, List.set] <;> rfl) (by intro _; rfl) fun w6 hS => ?_; dsimp only [List.set] at hS
   refine wl_nil ?_
   refine xt ?_
   refine ret0n rfl hF ⟨rfl, ?_⟩
   unfold headS
   rw [if_pos c26, if_pos c42]
   exact hS
  refine wp_skip ?_
  refine xt ?_
  refine ret0n rfl hF ⟨rfl, ?_⟩
  unfold headS
  rw [if_pos c26, if_neg c42]
  exact hS
 refine rg hF rfl fun a hF => ?_
 refine cx 46 hF rfl (fun c46 hF => ?_) fun c46 hF => ?_
 ·
  refine wp_seq_k fun K9 hK9 => ?_
  refine wp_region_J (is := [0, 1, 2, 3, 4, 5, 7, 8, 9, 10, 6, 11]) (fun (_ : Unit) r => r) _ (()) [11] (by kernel_rfl) hF hS (by kernel_rfl) ?_
  refine tj_pure (by kernel_rfl) rfl (gw0 rfl) rfl rfl (fun a w_ hF => r_move (hF.ev rfl)) ?_
  refine tj_pure (by kernel_rfl) rfl (gw0 rfl) rfl rfl (fun a w_ hF => r_move (hF.ev rfl)) ?_
  refine tj_pure (by kernel_rfl) rfl (gw0 rfl) rfl rfl (fun a w_ hF => r_nilCheck (hF.ev rfl)) ?_
  refine tj_pure (by kernel_rfl) rfl (gw0 rfl) rfl rfl (fun a w_ hF => r_field fo29_0 (hF.ev rfl)) ?_
  refine tj_load [6, 11] (by kernel_rfl) rfl (gw0 rfl) rfl rfl (fun a w_ x_ hF hS => r_loadn ag25 (hF.ev rfl) (hS.boxn (vs := [_, _, _, _, _, _]) (i := 0) (m := 6) rfl rfl) sz25) ?_
  refine tj_pure (by kernel_rfl) rfl (gw0 rfl) rfl rfl (fun a w_ hF => r_move (hF.ev rfl)) ?_
  refine tj_pure (by kernel_rfl) rfl (gw0 rfl) rfl rfl (fun a w_ hF => r_move (hF.ev rfl)) ?_
  refine tj_pure (by kernel_rfl) rfl (gw0 rfl) rfl rfl (fun a w_ hF => r_nilCheck (hF.ev rfl)) ?_
  refine tj_pure (by kernel_rfl) rfl (gw0 rfl) rfl rfl (fun a w_ hF => r_field fo42_6 (hF.ev rfl)) ?_
  refine tj_load [11] (by kernel_rfl) rfl (gw0 rfl) rfl rfl (fun a w_ x_ hF hS => r_load1 sc3 (hF.ev rfl) (hS.elt1 (q := 3) (j := 9) hp rfl (fun _ => rfl))) ?_
  refine tj_rd (by kernel_rfl) rfl (gw0 rfl) rfl rfl (fun a w_ hF => r_call3 en109 (hF.ev rfl) (hF.ev rfl) ec) (fun w_ hS => specHazardCell_c _ _ _) ?_
  refine tj_fin (tl := [_]) (by kernel_rfl) rfl ?_; intro a w7 hF hS; try dsimp only at hS
  refine ck hF rfl (l9Put_c (s := s) hS) ?_; rintro v w8 a ⟨rfl, hS⟩ hF
  refine wl_nil ⟨rfl, ?_⟩
  refine hK9 _ _ ?_
  refine wp_region_lit ?_
  refine ga 3 hF rfl fun a hF => ?_
  refine wl_estore (q := 3) (j := 0) (⟨_, ⟨_, _, _⟩, ⟨_, _⟩, _, _, _, _, _, _, _, _, _, _, _, _, _⟩ : Sl.Thread) hF hS hp rfl sz3 (hF.ev rfl) rfl ec rfl (fun _ => rfl) (fun _ => by dsimp only [threadEK, Thread.encv, List.set] <;> rfl) (by intro _; rfl) fun w9 hS => ?_; dsimp only [List.set] at hS
  refine wl_nil ?_
  refine xt ?_
  refine ret0n rfl hF ⟨rfl, ?_⟩
  unfold headS
  rw [if_neg c26, if_pos c46]
  exact hS
 refine rg hF rfl fun a hF => ?_
 refine cx 63 hF rfl (fun c63 hF => ?_) fun c63 hF => ?_
 ·
  refine ws fun K11 hK11 => ?_
  refine ga 3 hF rfl fun a hF => ?_
  refine wl_estore (q := 3) (j := 0) (⟨_, ⟨_, _, _⟩, ⟨_, _⟩, _, _, _, _, _, _, _, _, _, _, _, _, _⟩ : Sl.Thread) hF hS hp rfl sz3 (hF.ev rfl) rfl ec rfl (fun _ => rfl) (fun _ => by dsimp only [threadEK, Thread.encv, List.set] <;> rfl) (by intro _; rfl) fun w10 hS => ?_; dsimp only [List.set] at hS
  refine wl_nil (hK11 _ _ ?_)
  refine wp_seq_k fun K12 hK12 => ?_
  refine wp_region_calm (by kernel_rfl) (by kernel_rfl) ?_
  refine qa 2 hF tk rfl fun a hF => ?_
  refine qk hF rfl (fun w_ hB_ => l9LoadR_c (fun j u hu => (hS.ext hB_).box7 (i := 0) rfl j u hu) ((hS.ext hB_).own_rd (i := 1) rfl)) fun a hF => ?_
  refine qa 3 hF tk rfl fun a hF => ?_
  refine wq hF rfl rfl rfl (fun w_ hB_ => r_load1 sc3 (hF.ev rfl) ((hS.ext hB_).elt1 (q := 3) (j := 9) hp rfl (fun _ => rfl))) fun a hF => ?_
  refine qa 1 hF tk rfl fun a hF => ?_
  refine wpQuiet_nil ?_; intro w11 hB_; have hS := hS.ext hB_
  refine hK12 _ _ ?_
  refine cx 75 hF rfl (fun c75 hF => ?_) fun c75 hF => ?_
  ·
   refine ws fun K13 hK13 => ?_
   refine gb 8 0 hF hS rfl rfl rfl fun a hF => ?_
   refine wv 0 hF hS rfl rfl rfl rfl rfl rfl fun w12 hS => ?_
   refine wl_nil (hK13 _ _ ?_)
   refine wp_region_lit ?_
   refine ga 3 hF rfl fun a hF => ?_
   refine wl_estore (q := 3) (j := 0) (⟨_, ⟨_, _, _⟩, ⟨_, _⟩, _, _, _, _, _, _, _, _, _, _, _, _, _⟩ : Sl.Thread) hF hS hp rfl sz3 (hF.ev rfl) rfl ec rfl (fun _ => rfl) (fun _ => by dsimp only [threadEK, Thread.encv, List.set] <;> rfl) (by intro _; rfl) fun w13 hS => ?_; dsimp only [List.set] at hS
   refine wl_nil ?_
   refine xt ?_
   refine ret0n rfl hF ⟨rfl, ?_⟩
   unfold headS
   rw [if_neg c26, if_neg c46, if_pos c63, if_neg c75]
   exact hS
  refine wp_skip ?_
  refine xt ?_
  refine ret0n rfl hF ⟨rfl, ?_⟩
  unfold headS
  rw [if_neg c26, if_neg c46, if_pos c63, if_pos c75]
  exact hS
 refine rg hF rfl fun a hF => ?_
 refine cx 87 hF rfl (fun c87 hF => ?_) fun c87 hF => ?_
 ·
  refine ws fun K15 hK15 => ?_
  refine ga 6 hF rfl fun a hF => ?_
  refine wl hF rfl rfl rfl (r_load1 sc3 (hF.ev rfl) (hS.elt1 (q := 3) (j := 9) hp rfl (fun _ => rfl))) fun a hF => ?_
  replace hS := Sep.headp (A := [_, _, _, _]) (B := [_, _, _, _]) hS [0, 2, 1, 3] (by decide) rfl rfl
  refine ck hF rfl (l9Cell_c (s := s) hf.curr hf.lg hS) ?_; rintro v w14 a ⟨rfl, hS⟩ hF
  refine ckr hF hS rfl (l9LoadR_c (fun j u hu => hS.box7 (i := 0) rfl j u hu) (hS.own_rd (i := 2) rfl)) fun w15 a hS hF => ?_
  refine ga 2 hF rfl fun a hF => ?_
  refine wl_estore (q := 3) (j := 12) (⟨_, ⟨_, _, _⟩, ⟨_, _⟩, _, _, _, _, _, _, _, _, _, _, _, _, _⟩ : Sl.Thread) hF hS hp rfl sz3 (hF.ev rfl) rfl (hF.ev rfl) rfl (fun _ => rfl) (fun _ => by dsimp only [threadEK, Thread.encv, List.set] <;> rfl) (by intro _; rfl) fun w16 hS => ?_; dsimp only [List.set] at hS
  refine wl_nil (hK15 _ _ ?_)
  refine ws fun K16 hK16 => ?_
  refine ga 3 hF rfl fun a hF => ?_
  refine wl_estore (q := 3) (j := 0) (⟨_, ⟨_, _, _⟩, ⟨_, _⟩, _, _, _, _, _, _, _, _, _, _, _, _, _⟩ : Sl.Thread) hF hS hp rfl sz3 (hF.ev rfl) rfl ec rfl (fun _ => rfl) (fun _ => by dsimp only [threadEK, Thread.encv, List.set] <;> rfl) (by intro _; rfl) fun w17 hS => ?_; dsimp only [List.set] at hS
  refine wl_nil (hK16 _ _ ?_)
  refine ws fun K17 hK17 => ?_
  refine ga 3 hF rfl fun a hF => ?_
  refine wl hF rfl rfl rfl (r_load1 sc3 (hF.ev rfl) (hS.elt1 (q := 3) (j := 12) hp rfl (fun _ => rfl))) fun a hF => ?_
  refine ge hK17 hF rfl fun a hF => ?_
  refine cx 107 hF rfl (fun c107 hF => ?_) fun c107 hF => ?_
  ·
   refine wp_region_lit ?_
   refine ga 3 hF rfl fun a hF => ?_
   refine wl_estore (q := 3) (j := 0) (⟨_, ⟨_, _, _⟩, ⟨_, _⟩, _, _, _, _, _, _, _, _, _, _, _, _, _⟩ : Sl.Thread) hF hS hp rfl sz3 (hF.ev rfl) rfl ec rfl (fun _ => rfl) (fun _ => by dsimp only [threadEK, Thread.encv, List.set] <;> rfl) (by intro _; rfl) fun w18 hS => ?_; dsimp only [List.set] at hS
   refine wl_nil ?_
   refine xt ?_
   refine ret0n rfl hF ⟨rfl, ?_⟩
   unfold headS
   rw [if_neg c26, if_neg c46, if_neg c63, if_pos c87, if_pos c107]
   exact (Sep.headp (A := [_, _, _, _]) (B := [_, _, _, _]) hS [0, 2, 1, 3] (by decide) rfl rfl)
  refine wp_skip ?_
  refine xt ?_
  refine ret0n rfl hF ⟨rfl, ?_⟩
  unfold headS
  rw [if_neg c26, if_neg c46, if_neg c63, if_pos c87, if_neg c107]
  exact (Sep.headp (A := [_, _, _, _]) (B := [_, _, _, _]) hS [0, 2, 1, 3] (by decide) rfl rfl)
 refine rg hF rfl fun a hF => ?_
 refine cx 111 hF rfl (fun c111 hF => ?_) fun c111 hF => ?_
 ·
  refine ws fun K19 hK19 => ?_
  refine gb 5 0 hF hS rfl rfl rfl fun a hF => ?_
  obtain ⟨g118, o118, m118, q118, hv118, hm118, hl118, hc118⟩ := Rd.atF ((hS.own_rd (i := 1) rfl)) (a := a) (X := .const (.int .i64 0)) ec (by omega) (by omega)
  refine wl hF rfl rfl rfl (r_index sl26 ((hF.ev rfl).trans hv118) ec (by omega) (by first | omega | (simp at hm118; omega))) fun a hF => ?_
  refine wl hF rfl rfl rfl (r_load1 sc3 (hF.ev rfl) (hc118 0 _ rfl)) fun a hF => ?_
  refine ga 2 hF rfl fun a hF => ?_
  refine wl_estore (q := 3) (j := 11) (⟨_, ⟨_, _, _⟩, ⟨_, _⟩, _, _, _, _, _, _, _, _, _, _, _, _, _⟩ : Sl.Thread) hF hS hp rfl sz3 (hF.ev rfl) rfl (hF.ev rfl) rfl (fun _ => rfl) (fun _ => by dsimp only [threadEK, Thread.encv, List.set] <;> rfl) (by intro _; rfl) fun w19 hS => ?_; dsimp only [List.set] at hS
  refine wl_nil (hK19 _ _ ?_)
  refine wp_region_lit ?_
  refine ga 3 hF rfl fun a hF => ?_
  refine wl_estore (q := 3) (j := 0) (⟨_, ⟨_, _, _⟩, ⟨_, _⟩, _, _, _, _, _, _, _, _, _, _, _, _, _⟩ : Sl.Thread) hF hS hp rfl sz3 (hF.ev rfl) rfl ec rfl (fun _ => rfl) (fun _ => by dsimp only [threadEK, Thread.encv, List.set] <;> rfl) (by intro _; rfl) fun w20 hS => ?_; dsimp only [List.set] at hS
  refine wl_nil ?_
  refine xt ?_
  refine ret0n rfl hF ⟨rfl, ?_⟩
  unfold headS
  rw [if_neg c26, if_neg c46, if_neg c63, if_neg c87, if_pos c111]
  exact hS
 refine rg hF rfl fun a hF => ?_
 refine cx 125 hF rfl (fun c125 hF => ?_) fun c125 hF => ?_
 ·
  refine wp_seq_k fun K21 hK21 => ?_
  refine wp_region_J (is := [0, 1, 2, 3, 4, 5, 7, 8, 9, 10, 6, 11]) (fun (f : Int) r => Box g (s.encf (sv z0) (sv z1) (.slice (some ⟨gt, ot, none⟩) mt ct) f) :: r) _ (s.faults) [11] (by kernel_rfl) hF hS (by kernel_rfl) ?_
  refine tj_pure (by kernel_rfl) rfl (gw0 rfl) rfl rfl (fun a w_ hF => r_move (hF.ev rfl)) ?_
  refine tj_pure (by kernel_rfl) rfl (gw0 rfl) rfl rfl (fun a w_ hF => r_move (hF.ev rfl)) ?_
  refine tj_pure (by kernel_rfl) rfl (gw0 rfl) rfl rfl (fun a w_ hF => r_move (hF.ev rfl)) ?_
  refine tj_pure (by kernel_rfl) rfl (gw0 rfl) rfl rfl (fun a w_ hF => r_nilCheck (hF.ev rfl)) ?_
  refine tj_pure (by kernel_rfl) rfl (gw0 rfl) rfl rfl (fun a w_ hF => r_field fo42_6 (hF.ev rfl)) ?_
  refine tj_load [6, 11] (by kernel_rfl) rfl (gw0 rfl) rfl rfl (fun a w_ x_ hF hS => r_load1 sc3 (hF.ev rfl) (hS.elt1 (q := 3) (j := 9) hp rfl (fun _ => rfl))) ?_
  refine tj_pure (by kernel_rfl) rfl (gw0 rfl) rfl rfl (fun a w_ hF => r_move (hF.ev rfl)) ?_
  refine tj_pure (by kernel_rfl) rfl (gw0 rfl) rfl rfl (fun a w_ hF => r_nilCheck (hF.ev rfl)) ?_
  refine tj_pure (by kernel_rfl) rfl (gw0 rfl) rfl rfl (fun a w_ hF => r_field fo42_8 (hF.ev rfl)) ?_
  refine tj_load [11] (by kernel_rfl) rfl (gw0 rfl) rfl rfl (fun a w_ x_ hF hS => r_load1 sc3 (hF.ev rfl) (hS.elt1 (q := 3) (j := 11) hp rfl (fun _ => rfl))) ?_
  refine tj_mc (by kernel_rfl) rfl (gw0 rfl) rfl rfl (fun a w_ hF => r_call3 en166 (hF.ev rfl) (hF.ev rfl) ec) (fun w_ hS => calls_unit (l9Cell_c (s := s) hf.curr hf.lg (Sep.headp (A := [_, _, _, _]) (B := [_, _, _, _]) hS [0, 2, 1, 3] (by decide) rfl rfl))) (fun _ w_ h_ => ⟨_, (Sep.headp (A := [_, _, _, _]) (B := [_, _, _, _]) h_ [0, 2, 1, 3] (by decide) rfl rfl)⟩) ?_; intro _
  refine tj_fin (tl := [_]) (by kernel_rfl) rfl ?_; intro a w21 hF hS; try dsimp only at hS
  replace hS := Sep.headp (A := [_, _, _, _]) (B := [_, _, _, _]) hS [0, 2, 1, 3] (by decide) rfl rfl
  refine ck hF rfl (l9Swap_c (s := faultS s t.curr) hS) ?_; rintro v w22 a ⟨rfl, hS⟩ hF
  refine wl_nil ⟨rfl, ?_⟩
  refine hK21 _ _ ?_
  refine wp_region_lit ?_
  refine ga 3 hF rfl fun a hF => ?_
  refine wl_estore (q := 3) (j := 0) (⟨_, ⟨_, _, _⟩, ⟨_, _⟩, _, _, _, _, _, _, _, _, _, _, _, _, _⟩ : Sl.Thread) hF hS hp rfl sz3 (hF.ev rfl) rfl ec rfl (fun _ => rfl) (fun _ => by dsimp only [threadEK, Thread.encv, List.set] <;> rfl) (by intro _; rfl) fun w23 hS => ?_; dsimp only [List.set] at hS
  refine wl_nil ?_
  refine xt ?_
  refine ret0n rfl hF ⟨rfl, ?_⟩
  unfold headS
  rw [if_neg c26, if_neg c46, if_neg c63, if_neg c87, if_neg c111, if_pos c125]
  exact hS
 refine rg hF rfl fun a hF => ?_
 refine cx 142 hF rfl (fun c142 hF => ?_) fun c142 hF => ?_
 ·
  refine wp_seq_k fun K23 hK23 => ?_
  refine wp_region_J (is := [0, 1, 2, 3, 4, 5, 7, 8, 9, 10, 6, 11]) (fun (f : Int) r => Box g (s.encf (sv z0) (sv z1) (.slice (some ⟨gt, ot, none⟩) mt ct) f) :: r) _ (s.faults) [11] (by kernel_rfl) hF hS (by kernel_rfl) ?_
  refine tj_pure (by kernel_rfl) rfl (gw0 rfl) rfl rfl (fun a w_ hF => r_move (hF.ev rfl)) ?_
  refine tj_pure (by kernel_rfl) rfl (gw0 rfl) rfl rfl (fun a w_ hF => r_move (hF.ev rfl)) ?_
  refine tj_pure (by kernel_rfl) rfl (gw0 rfl) rfl rfl (fun a w_ hF => r_move (hF.ev rfl)) ?_
  refine tj_pure (by kernel_rfl) rfl (gw0 rfl) rfl rfl (fun a w_ hF => r_nilCheck (hF.ev rfl)) ?_
  refine tj_pure (by kernel_rfl) rfl (gw0 rfl) rfl rfl (fun a w_ hF => r_field fo42_4 (hF.ev rfl)) ?_
  refine tj_load [6, 11] (by kernel_rfl) rfl (gw0 rfl) rfl rfl (fun a w_ x_ hF hS => r_load1 sc3 (hF.ev rfl) (hS.elt1 (q := 3) (j := 7) hp rfl (fun _ => rfl))) ?_
  refine tj_pure (by kernel_rfl) rfl (gw0 rfl) rfl rfl (fun a w_ hF => r_move (hF.ev rfl)) ?_
  refine tj_pure (by kernel_rfl) rfl (gw0 rfl) rfl rfl (fun a w_ hF => r_nilCheck (hF.ev rfl)) ?_
  refine tj_pure (by kernel_rfl) rfl (gw0 rfl) rfl rfl (fun a w_ hF => r_field fo42_6 (hF.ev rfl)) ?_
  refine tj_load [11] (by kernel_rfl) rfl (gw0 rfl) rfl rfl (fun a w_ x_ hF hS => r_load1 sc3 (hF.ev rfl) (hS.elt1 (q := 3) (j := 9) hp rfl (fun _ => rfl))) ?_
  refine tj_mc (by kernel_rfl) rfl (gw0 rfl) rfl rfl (fun a w_ hF => r_call3 en166 (hF.ev rfl) (hF.ev rfl) ec) (fun w_ hS => calls_unit (l9Cell_c (s := s) hf.node hf.lg (Sep.headp (A := [_, _, _, _]) (B := [_, _, _, _]) hS [0, 2, 1, 3] (by decide) rfl rfl))) (fun _ w_ h_ => ⟨_, (Sep.headp (A := [_, _, _, _]) (B := [_, _, _, _]) h_ [0, 2, 1, 3] (by decide) rfl rfl)⟩) ?_; intro _
  refine tj_fin (tl := [_]) (by kernel_rfl) rfl ?_; intro a w24 hF hS; try dsimp only at hS
  replace hS := Sep.headp (A := [_, _, _, _]) (B := [_, _, _, _]) hS [0, 2, 1, 3] (by decide) rfl rfl
  refine ck hF rfl (l9Put_c (s := faultS s t.node) hS) ?_; rintro v w25 a ⟨rfl, hS⟩ hF
  refine wl_nil ⟨rfl, ?_⟩
  refine hK23 _ _ ?_
  refine wp_region_lit ?_
  refine ga 3 hF rfl fun a hF => ?_
  refine wl_estore (q := 3) (j := 0) (⟨_, ⟨_, _, _⟩, ⟨_, _⟩, _, _, _, _, _, _, _, _, _, _, _, _, _⟩ : Sl.Thread) hF hS hp rfl sz3 (hF.ev rfl) rfl ec rfl (fun _ => rfl) (fun _ => by dsimp only [threadEK, Thread.encv, List.set] <;> rfl) (by intro _; rfl) fun w26 hS => ?_; dsimp only [List.set] at hS
  refine wl_nil ?_
  refine xt ?_
  refine ret0n rfl hF ⟨rfl, ?_⟩
  unfold headS
  rw [if_neg c26, if_neg c46, if_neg c63, if_neg c87, if_neg c111, if_neg c125, if_pos c142]
  exact hS
 refine rg hF rfl fun a hF => ?_
 refine cx 159 hF rfl (fun c159 hF => ?_) fun c159 hF => ?_
 ·
  refine ws fun K25 hK25 => ?_
  refine ga 3 hF rfl fun a hF => ?_
  refine wl_estore (q := 3) (j := 0) (⟨_, ⟨_, _, _⟩, ⟨_, _⟩, _, _, _, _, _, _, _, _, _, _, _, _, _⟩ : Sl.Thread) hF hS hp rfl sz3 (hF.ev rfl) rfl ec rfl (fun _ => rfl) (fun _ => by dsimp only [threadEK, Thread.encv, List.set] <;> rfl) (by intro _; rfl) fun w27 hS => ?_; dsimp only [List.set] at hS
  refine wl_nil (hK25 _ _ ?_)
  refine wp_seq_k fun K26 hK26 => ?_
  refine wp_region_J (is := [0, 1, 2, 3, 4, 5, 6, 7, 8, 9, 10, 11]) (fun (_ : Unit) r => r) _ (()) [10, 11] (by kernel_rfl) hF hS (by kernel_rfl) ?_
  refine tj_pure (by kernel_rfl) rfl (gw0 rfl) rfl rfl (fun a w_ hF => r_move (hF.ev rfl)) ?_
  refine tj_pure (by kernel_rfl) rfl (gw0 rfl) rfl rfl (fun a w_ hF => r_move (hF.ev rfl)) ?_
  refine tj_pure (by kernel_rfl) rfl (gw0 rfl) rfl rfl (fun a w_ hF => r_move (hF.ev rfl)) ?_
  refine tj_pure (by kernel_rfl) rfl (gw0 rfl) rfl rfl (fun a w_ hF => r_nilCheck (hF.ev rfl)) ?_
  refine tj_pure (by kernel_rfl) rfl (gw0 rfl) rfl rfl (fun a w_ hF => r_field fo42_6 (hF.ev rfl)) ?_
  refine tj_load [10, 11] (by kernel_rfl) rfl (gw0 rfl) rfl rfl (fun a w_ x_ hF hS => r_load1 sc3 (hF.ev rfl) (hS.elt1 (q := 3) (j := 9) hp rfl (fun _ => rfl))) ?_
  refine tj_pure (by kernel_rfl) rfl (gw0 rfl) rfl rfl (fun a w_ hF => r_move (hF.ev rfl)) ?_
  refine tj_pure (by kernel_rfl) rfl (gw0 rfl) rfl rfl (fun a w_ hF => r_nilCheck (hF.ev rfl)) ?_
  refine tj_pure (by kernel_rfl) rfl (gw0 rfl) rfl rfl (fun a w_ hF => r_field fo42_4 (hF.ev rfl)) ?_
  refine tj_load [10, 11] (by kernel_rfl) rfl (gw0 rfl) rfl rfl (fun a w_ x_ hF hS => r_load1 sc3 (hF.ev rfl) (hS.elt1 (q := 3) (j := 7) hp rfl (fun _ => rfl))) ?_
  refine tj_fin (tl := [_, _]) (by kernel_rfl) rfl ?_; intro a w28 hF hS; try dsimp only at hS
  refine ck hF rfl (l9Swap_c (s := s) hS) ?_; rintro v w29 a ⟨rfl, hS⟩ hF
  refine ga 1 hF rfl fun a hF => ?_
  refine wl_nil ⟨rfl, ?_⟩
  refine hK26 _ _ ?_
  refine cx 175 hF rfl (fun c175 hF => ?_) fun c175 hF => ?_
  ·
   replace c175 : ¬ hitB s.cells (headCell s.config t.op.key) t.curr = true := fun h => by rw [h] at c175; cases c175
   refine ws fun K27 hK27 => ?_
   refine gb 8 0 hF hS rfl rfl rfl fun a hF => ?_
   refine wv 0 hF hS rfl rfl rfl rfl rfl rfl fun w30 hS => ?_
   refine wl_nil (hK27 _ _ ?_)
   refine wp_region_lit ?_
   refine ga 3 hF rfl fun a hF => ?_
   refine wl_estore (q := 3) (j := 0) (⟨_, ⟨_, _, _⟩, ⟨_, _⟩, _, _, _, _, _, _, _, _, _, _, _, _, _⟩ : Sl.Thread) hF hS hp rfl sz3 (hF.ev rfl) rfl ec rfl (fun _ => rfl) (fun _ => by dsimp only [threadEK, Thread.encv, List.set] <;> rfl) (by intro _; rfl) fun w31 hS => ?_; dsimp only [List.set] at hS
   refine wl_nil ?_
   refine xt ?_
   refine ret0n rfl hF ⟨rfl, ?_⟩
   unfold headS
   rw [if_neg c26, if_neg c46, if_neg c63, if_neg c87, if_neg c111, if_neg c125, if_neg c142, if_pos c159, if_neg c175]
   exact hS
  refine wp_skip ?_
  refine xt ?_
  refine ret0n rfl hF ⟨rfl, ?_⟩
  unfold headS
  rw [if_neg c26, if_neg c46, if_neg c63, if_neg c87, if_neg c111, if_neg c125, if_neg c142, if_pos c159, if_pos c175]
  exact hS
 refine wp_skip ?_
 refine xt ?_
 refine ret0n rfl hF ⟨rfl, ?_⟩
 unfold headS
 rw [if_neg c26, if_neg c46, if_neg c63, if_neg c87, if_neg c111, if_neg c125, if_neg c142, if_neg c159]
 exact hS
theorem l14Own_c {W w : World} {l : List Res} {g gt ot mt ct p : Nat} {z0 z1 : Slv} {s : Sl.State} {t : Sl.Thread} (hp : p < s.threads.length) (hf : Fit s t) (hS : Sep W (Box g ((s).encv (sv z0) (sv z1) (.slice (some ⟨gt, ot, none⟩) mt ct)) :: Own intEK (sv z0) (s).cells :: Own intEK (sv z1) (s).generations :: Own threadEK (.slice (some ⟨gt, ot, none⟩) mt ct) (s.threads.set p t) :: l) w) : Calls Tryz.prog 120 #[.pointer (some ⟨g, 0, none⟩), vi (p : Int)] w (Ret fun v w' => v = .tuple #[] ∧ Sep W (Box g (((ownS s t (p : Int)).1).encv (sv z0) (sv z1) (.slice (some ⟨gt, ot, none⟩) mt ct)) :: Own intEK (sv z0) ((ownS s t (p : Int)).1).cells :: Own intEK (sv z1) ((ownS s t (p : Int)).1).generations :: Own threadEK (.slice (some ⟨gt, ot, none⟩) mt ct) (s.threads.set p (ownS s t (p : Int)).2) :: l) w') := by
 refine calls_fr Tryz.func120 rfl Tryz.ntmps120 rfl ?_
 intro a hF
 have hl0 := hS.own_len (q := 1) rfl
 have hl1 := hS.own_len (q := 2) rfl
 have hmt : mt = s.threads.length := by have := hS.own_len (q := 3) (s := (some ⟨gt, ot, none⟩, mt, ct)) rfl; simpa using this
 have hlc := hf.two
 have hz1 := hf.sizes; unfold sizesOk at hz1
 refine ws fun K1 hK1 => ?_
 refine gb 5 0 hF hS rfl rfl rfl fun a hF => ?_
 refine wl hF rfl rfl rfl (r_index sl27 (hF.ev rfl) (hF.ev rfl) (by omega) (by first | omega | (dsimp only; omega))) fun a hF => ?_
 refine ge hK1 hF rfl fun a hF => ?_
 refine ws fun K2 hK2 => ?_
 refine ga 3 hF rfl fun a hF => ?_
 refine wl hF rfl rfl rfl (r_load1 sc3 (hF.ev rfl) (hS.elt1 (q := 3) (j := 0) hp rfl (fun _ => rfl))) fun a hF => ?_
 refine wl_nil (hK2 _ _ ?_)
 refine wp_block ?_
 refine rg hF rfl fun a hF => ?_
 refine cx 17 hF rfl (fun c17 hF => ?_) fun c17 hF => ?_
 ·
  refine ws fun K4 hK4 => ?_
  refine gb 5 0 hF hS rfl rfl rfl fun a hF => ?_
  obtain ⟨g24, o24, m24, q24, hv24, hm24, hl24, hc24⟩ := Rd.atF ((hS.own_rd (i := 1) rfl)) (a := a) (X := .const (.int .i64 0)) ec (by omega) (by omega)
  refine wl hF rfl rfl rfl (r_index sl26 ((hF.ev rfl).trans hv24) ec (by omega) (by first | omega | (simp at hm24; omega))) fun a hF => ?_
  refine wl hF rfl rfl rfl (r_load1 sc3 (hF.ev rfl) (hc24 0 _ rfl)) fun a hF => ?_
  refine ga 2 hF rfl fun a hF => ?_
  refine wl_estore (q := 3) (j := 11) (⟨_, ⟨_, _, _⟩, ⟨_, _⟩, _, _, _, _, _, _, _, _, _, _, _, _, _⟩ : Sl.Thread) hF hS hp rfl sz3 (hF.ev rfl) rfl (hF.ev rfl) rfl (fun _ => rfl) (fun _ => by dsimp only [threadEK, Thread.encv, List.set] <;> rfl) (by intro _; rfl) fun w1 hS => ?_; dsimp only [List.set] at hS
  refine wl_nil (hK4 _ _ ?_)
  refine wp_region_lit ?_
  refine ga 3 hF rfl fun a hF => ?_
  refine wl_estore (q := 3) (j := 0) (⟨_, ⟨_, _, _⟩, ⟨_, _⟩, _, _, _, _, _, _, _, _, _, _, _, _, _⟩ : Sl.Thread) hF hS hp rfl sz3 (hF.ev rfl) rfl ec rfl (fun _ => rfl) (fun _ => by dsimp only [threadEK, Thread.encv, List.set] <;> rfl) (by intro _; rfl) fun w2 hS => ?_; dsimp only [List.set] at hS
  refine wl_nil ?_
  refine xt ?_
  refine ret0n rfl hF ⟨rfl, ?_⟩
  unfold ownS
  rw [if_pos c17]
  exact hS
 refine rg hF rfl fun a hF => ?_
 refine cx 31 hF rfl (fun c31 hF => ?_) fun c31 hF => ?_
 ·
  refine wp_seq_k fun K6 hK6 => ?_
  refine wp_region_J (is := [0, 1, 2, 3, 4, 5, 7, 8, 9, 10, 6, 11]) (fun (f : Int) r => Box g (s.encf (sv z0) (sv z1) (.slice (some ⟨gt, ot, none⟩) mt ct) f) :: r) _ (s.faults) [11] (by kernel_rfl) hF hS (by kernel_rfl) ?_
  refine tj_pure (by kernel_rfl) rfl (gw0 rfl) rfl rfl (fun a w_ hF => r_move (hF.ev rfl)) ?_
  refine tj_pure (by kernel_rfl) rfl (gw0 rfl) rfl rfl (fun a w_ hF => r_move (hF.ev rfl)) ?_
  refine tj_pure (by kernel_rfl) rfl (gw0 rfl) rfl rfl (fun a w_ hF => r_move (hF.ev rfl)) ?_
  refine tj_pure (by kernel_rfl) rfl (gw0 rfl) rfl rfl (fun a w_ hF => r_nilCheck (hF.ev rfl)) ?_
  refine tj_pure (by kernel_rfl) rfl (gw0 rfl) rfl rfl (fun a w_ hF => r_field fo42_4 (hF.ev rfl)) ?_
  refine tj_load [6, 11] (by kernel_rfl) rfl (gw0 rfl) rfl rfl (fun a w_ x_ hF hS => r_load1 sc3 (hF.ev rfl) (hS.elt1 (q := 3) (j := 7) hp rfl (fun _ => rfl))) ?_
  refine tj_pure (by kernel_rfl) rfl (gw0 rfl) rfl rfl (fun a w_ hF => r_move (hF.ev rfl)) ?_
  refine tj_pure (by kernel_rfl) rfl (gw0 rfl) rfl rfl (fun a w_ hF => r_nilCheck (hF.ev rfl)) ?_
  refine tj_pure (by kernel_rfl) rfl (gw0 rfl) rfl rfl (fun a w_ hF => r_field fo42_8 (hF.ev rfl)) ?_
  refine tj_load [11] (by kernel_rfl) rfl (gw0 rfl) rfl rfl (fun a w_ x_ hF hS => r_load1 sc3 (hF.ev rfl) (hS.elt1 (q := 3) (j := 11) hp rfl (fun _ => rfl))) ?_
  refine tj_mc (by kernel_rfl) rfl (gw0 rfl) rfl rfl (fun a w_ hF => r_call3 en166 (hF.ev rfl) (hF.ev rfl) ec) (fun w_ hS => calls_unit (l9Cell_c (s := s) hf.node hf.lg (Sep.headp (A := [_, _, _, _]) (B := [_, _, _, _]) hS [0, 2, 1, 3] (by decide) rfl rfl))) (fun _ w_ h_ => ⟨_, (Sep.headp (A := [_, _, _, _]) (B := [_, _, _, _]) h_ [0, 2, 1, 3] (by decide) rfl rfl)⟩) ?_; intro _
  refine tj_fin (tl := [_]) (by kernel_rfl) rfl ?_; intro a w3 hF hS; try dsimp only at hS
  replace hS := Sep.headp (A := [_, _, _, _]) (B := [_, _, _, _]) hS [0, 2, 1, 3] (by decide) rfl rfl
  refine ck hF rfl (l9Swap_c (s := faultS s t.node) hS) ?_; rintro v w4 a ⟨rfl, hS⟩ hF
  refine wl_nil ⟨rfl, ?_⟩
  refine hK6 _ _ ?_
  refine wp_region_lit ?_
  refine ga 3 hF rfl fun a hF => ?_
  refine wl_estore (q := 3) (j := 0) (⟨_, ⟨_, _, _⟩, ⟨_, _⟩, _, _, _, _, _, _, _, _, _, _, _, _, _⟩ : Sl.Thread) hF hS hp rfl sz3 (hF.ev rfl) rfl ec rfl (fun _ => rfl) (fun _ => by dsimp only [threadEK, Thread.encv, List.set] <;> rfl) (by intro _; rfl) fun w5 hS => ?_; dsimp only [List.set] at hS
  refine wl_nil ?_
  refine xt ?_
  refine ret0n rfl hF ⟨rfl, ?_⟩
  unfold ownS
  rw [if_neg c17, if_pos c31]
  exact hS
 refine rg hF rfl fun a hF => ?_
 refine cx 48 hF rfl (fun c48 hF => ?_) fun c48 hF => ?_
 ·
  refine ws fun K8 hK8 => ?_
  refine ga 5 hF rfl fun a hF => ?_
  refine wl hF rfl rfl rfl (r_load1 sc3 (hF.ev rfl) (hS.elt1 (q := 3) (j := 7) hp rfl (fun _ => rfl))) fun a hF => ?_
  replace hS := Sep.headp (A := [_, _, _, _]) (B := [_, _, _, _]) hS [0, 2, 1, 3] (by decide) rfl rfl
  refine ck hF rfl (l9Cell_c (s := s) hf.node hf.lg hS) ?_; rintro v w6 a ⟨rfl, hS⟩ hF
  refine ckr hF hS rfl (l9LoadR_c (fun j u hu => hS.box7 (i := 0) rfl j u hu) (hS.own_rd (i := 2) rfl)) fun w7 a hS hF => ?_
  refine ge hK8 hF rfl fun a hF => ?_
  refine wp_seq_k fun K9 hK9 => ?_
  refine wp_region_todo (is := [0, 1, 2, 3, 4, 5, 6, 7, 8, 9, 10, 11, 12, 13, 14, 16]) [(15, 6, [.int .i64 0, .int .i64 0, .int .i64 0, .int .i64 0])] [16] (by kernel_rfl) hF hS ⟨⟨⟨_, _, _, rfl, zr83⟩, trivial⟩, by decide, by decide, by decide⟩ (by kernel_rfl) ?_; intro hl_ wd hSd
  refine todo_pure hl_ (by kernel_rfl) rfl (gw0 rfl) rfl rfl rfl (fun a w_ hF => r_move (hF.ev rfl)) ?_
  refine todo_pure hl_ (by kernel_rfl) rfl (gw0 rfl) rfl rfl rfl (fun a w_ hF => r_nilCheck (hF.ev rfl)) ?_
  refine todo_pure hl_ (by kernel_rfl) rfl (gw0 rfl) rfl rfl rfl (fun a w_ hF => r_field fo42_6 (hF.ev rfl)) ?_
  refine todo_load [14, 16] hl_ (by kernel_rfl) rfl (gw0 rfl) rfl rfl rfl (fun a w_ hF hB_ => r_load1 sc3 (hF.ev rfl) ((hSd.ext hB_).elt1 (q := 3) (j := 9) hp rfl (fun _ => rfl))) ?_
  refine todo_pure hl_ (by kernel_rfl) rfl (gw0 rfl) rfl rfl rfl (fun a w_ hF => r_move (hF.ev rfl)) ?_
  refine todo_pure hl_ (by kernel_rfl) rfl (gw0 rfl) rfl rfl rfl (fun a w_ hF => r_nilCheck (hF.ev rfl)) ?_
  refine todo_pure hl_ (by kernel_rfl) rfl (gw0 rfl) rfl rfl rfl (fun a w_ hF => r_field fo42_1 (hF.ev rfl)) ?_
  refine todo_pure hl_ (by kernel_rfl) rfl (gw0 rfl) rfl rfl rfl (fun a w_ hF => r_field fo31_1 (hF.ev rfl)) ?_
  refine todo_load [14, 16] hl_ (by kernel_rfl) rfl (gw0 rfl) rfl rfl rfl (fun a w_ hF hB_ => r_load1 sc3 (hF.ev rfl) ((hSd.ext hB_).elt1 (q := 3) (j := 2) hp rfl (fun _ => rfl))) ?_
  refine todo_pure hl_ (by kernel_rfl) rfl (gw0 rfl) rfl rfl rfl (fun a w_ hF => r_move (hF.ev rfl)) ?_
  refine todo_pure hl_ (by kernel_rfl) rfl (gw0 rfl) rfl rfl rfl (fun a w_ hF => r_nilCheck (hF.ev rfl)) ?_
  refine todo_pure hl_ (by kernel_rfl) rfl (gw0 rfl) rfl rfl rfl (fun a w_ hF => r_field fo42_9 (hF.ev rfl)) ?_
  refine todo_load [14, 16] hl_ (by kernel_rfl) rfl (gw0 rfl) rfl rfl rfl (fun a w_ hF hB_ => r_load1 sc3 (hF.ev rfl) ((hSd.ext hB_).elt1 (q := 3) (j := 12) hp rfl (fun _ => rfl))) ?_
  refine todo_pure hl_ (by kernel_rfl) rfl (gw0 rfl) rfl rfl rfl (fun a w_ hF => r_move (hF.ev rfl)) ?_
  refine todo_pure hl_ (by kernel_rfl) rfl (gw0 rfl) rfl rfl rfl (fun a w_ hF => r_build (bd83_0_1_2_3 _ _ _ _) ⟨rfl, (hF.ev rfl), rfl, (hF.ev rfl), rfl, (hF.ev rfl), rfl, (hF.ev rfl), trivial⟩) ?_
  refine todo_fin hl_ rfl (by kernel_rfl) (tl := [_]) rfl ?_; intro a w8 hF hA_
  obtain ⟨g1, hS, he_0⟩ := hA_.open1; clear hA_
  replace hF := hF.more he_0; clear he_0
  clear hl_; try clear hSd
  try dsimp only [List.cons_append, List.nil_append, List.set] at hS
  try clear wd
  refine ww 0 hF hS rfl rfl rfl rfl rfl rfl fun w9 hS => ?_
  refine wl_nil ⟨rfl, ?_⟩
  refine hK9 _ _ ?_
  refine wp_seq_k fun K10 hK10 => ?_
  refine ws fun K11 hK11 => ?_
  refine ga 3 hF rfl fun a hF => ?_
  refine wl hF rfl rfl rfl (r_load1 sc3 (hF.ev rfl) (hS.elt1 (q := 4) (j := 9) hp rfl (fun _ => rfl))) fun a hF => ?_
  refine ga 2 hF rfl fun a hF => ?_
  apply wa 3 78 81 hF hS
  ·
   intro hg78 a hF
   refine gb 1 0 hF hS rfl rfl rfl fun a hF => ?_
   refine ckr hF hS rfl (specIsEntry_c (e := newE s t) hf.entry) fun w10 a hS hF => ?_
   exact je 3 hF hS rfl rfl rfl rfl
  intro a w11 hF hS
  refine ga 1 hF rfl fun a hF => ?_
  apply wa 7 82 89 hF hS
  ·
   intro hg82 a hF
   refine ga 3 hF rfl fun a hF => ?_
   refine wl_take hF rfl rfl rfl rfl ?_
   obtain ⟨ce86, ke86, ze86, he86⟩ := hS.eltK (q := 4) hp rfl; have kk86 := ke86; obtain ⟨u86_0, u86_1, u86_2, u86_3, u86_4, rfl, f86_0, f86_1, f86_2, f86_3, f86_4⟩ := ke86
   obtain ⟨Ae86, qe86, rfl, _, hme86⟩ := f86_2.sl; unfold maxLen at hme86
   refine wl hF rfl rfl rfl (r_load1 sc40 (hF.ev rfl) (he86 16 _ rfl)) fun a hF => ?_
   exact je 7 hF hS rfl rfl rfl rfl
  intro a w12 hF hS
  refine wl_nil (hK11 _ _ ?_)
  refine cx 89 hF rfl (fun c89 hF => ?_) fun c89 hF => ?_
  ·
   obtain ⟨A0_, A1_, A2_, A3_, A4_, k0_, k1_, k2_, k3_, k4_, ⟨n0_, n1_, n2_, n3_, n4_⟩, ⟨q0_, q1_, q2_, q3_, q4_⟩, hS_⟩ := Sep.thr_lend (t := t) (Sep.headp (A := [_, _, _, _, _]) (B := [_, _, _, _, _]) hS [4, 0, 1, 2, 3] (by decide) rfl rfl) hp; replace hS := hS_; clear hS_; unfold maxLen at n0_ n1_ n2_ n3_ n4_; try dsimp only at n0_ n1_ n2_ n3_ n4_ q0_ q1_ q2_ q3_ q4_
   dsimp only [Thread.encv] at hS
   refine wp_region_todo (is := [0, 1, 2, 3, 4, 5, 6, 7, 8, 9, 10]) [] [7, 8, 9, 10] (by kernel_rfl) hF hS ⟨trivial, by decide, by decide, by decide⟩ (by kernel_rfl) ?_; intro hl_ wd hSd
   refine todo_pure hl_ (by kernel_rfl) rfl (gw0 rfl) rfl rfl rfl (fun a w_ hF => r_move (hF.ev rfl)) ?_
   refine todo_pure hl_ (by kernel_rfl) rfl (gw0 rfl) rfl rfl rfl (fun a w_ hF => r_move (hF.ev rfl)) ?_
   refine todo_pure hl_ (by kernel_rfl) rfl (gw0 rfl) rfl rfl rfl (fun a w_ hF => r_nilCheck (hF.ev rfl)) ?_
   refine todo_pure hl_ (by kernel_rfl) rfl (gw0 rfl) rfl rfl rfl (fun a w_ hF => r_field fo42_13 (hF.ev rfl)) ?_
   refine todo_load [7, 8, 9, 10] hl_ (by kernel_rfl) rfl (gw0 rfl) rfl rfl rfl (fun a w_ hF hB_ => r_load1 sc40 (hF.ev rfl) ((hSd.ext hB_).but1 (q := 5) (j := 16) rfl rfl)) ?_
   refine todo_load [6, 7, 8, 9, 10] hl_ (by kernel_rfl) rfl (gw0 rfl) rfl rfl rfl (fun a w_ hF hB_ => r_loadn ag83 (hF.ev rfl) ((hSd.ext hB_).box_rd (i := 6) rfl) sz83) ?_
   refine todo_op hl_ rfl (by kernel_rfl) rfl rfl rfl rfl rfl (fun a w_ hF hS => r_bslice entryEK [.agg (newE s t).enc.toArray] [newE s t] rfl mk40 rfl ⟨rfl, (hF.ev rfl), trivial⟩ rfl rfl rfl rfl) ?_; intro gl_96
   refine todo_fin hl_ rfl (by kernel_rfl) (tl := [_, _, _, _]) rfl ?_; intro a w14 hF hA_
   have hS := hA_.sep; clear hA_
   clear hl_; try clear hSd
   try dsimp only [List.cons_append, List.nil_append, List.set] at hS
   try clear wd
   refine wl_append (q := 3) hF hS rfl rfl (hS.own_rd (i := 0) rfl) mk40 rfl (hF.ev rfl) (hF.ev rfl) (by simp; omega) (by unfold maxLen; simp; omega) ?_; intro A_97 c_97 w15 a hS_ hF; replace hS := hS_; clear hS_; dsimp only [List.set, List.length_cons, List.length_nil] at hS hF
   refine ga 2 hF rfl fun a hF => ?_
   refine wl_bstore (q := 6) (j := 16) hF hS rfl sz40 (hF.ev rfl) rfl (hF.ev rfl) rfl rfl fun w16 hS => ?_; dsimp only [List.set] at hS
   refine wl_nil ⟨rfl, ?_⟩
   refine hK10 _ _ ?_
   refine wp_region_lit ?_
   refine ga 3 hF rfl fun a hF => ?_
   refine wl_bstore (q := 6) (j := 0) hF hS rfl sz3 (hF.ev rfl) rfl ec rfl rfl fun w17 hS => ?_; dsimp only [List.set] at hS
   refine wl_nil ?_
   refine xt ?_
   replace hS := Sep.thr_back (t' := { t with buffer := t.buffer ++ [newE s t], pc := 46 }) (y0 := (_, _, _)) (y1 := (_, _, _)) (y2 := (_, _, _)) (y3 := (_, _, _)) (y4 := (_, _, _)) (Sep.headp (A := [_, _, _, _, _, _, _, _, _, _, _]) (B := [_, _, _, _, _, _, _, _, _, _, _]) hS [1, 2, 3, 4, 5, 6, 0, 7, 8, 9, 10] (by decide) rfl rfl) rfl
   have e45 : (if (¬ t.curr = 0 ∧ isEntry (newE s t) = true) ∧ (t.buffer.length : Int) < 100 then { t with buffer := t.buffer ++ [newE s t], pc := 46 } else { t with pc := 46 } : Sl.Thread) = { t with buffer := t.buffer ++ [newE s t], pc := 46 } := if_pos c89
   refine ret0n rfl hF ⟨rfl, ?_⟩
   unfold ownS
   rw [if_neg c17, if_neg c31, if_pos c48, e45]
   exact (Sep.headp (A := [_, _, _, _, _, _]) (B := [_, _, _, _]) hS [3, 5, 4, 0] (by decide) rfl rfl)
  have hng : ¬ ((¬ t.curr = 0 ∧ isEntry (newE s t) = true) ∧ (t.buffer.length : Int) < 100) := fun h => by
    rcases c89 with (c | c) | c
    · exact h.1.1 c
    · rw [h.1.2] at c; cases c
    · omega
  refine wp_skip ?_
  refine hK10 _ _ ?_
  refine wp_region_lit ?_
  refine ga 3 hF rfl fun a hF => ?_
  refine wl_estore (q := 4) (j := 0) (⟨_, ⟨_, _, _⟩, ⟨_, _⟩, _, _, _, _, _, _, _, _, _, _, _, _, _⟩ : Sl.Thread) hF hS hp rfl sz3 (hF.ev rfl) rfl ec rfl (fun _ => rfl) (fun _ => by dsimp only [threadEK, Thread.encv, List.set] <;> rfl) (by intro _; rfl) fun w18 hS => ?_; dsimp only [List.set] at hS
  refine wl_nil ?_
  refine xt ?_
  have e45 : (if (¬ t.curr = 0 ∧ isEntry (newE s t) = true) ∧ (t.buffer.length : Int) < 100 then { t with buffer := t.buffer ++ [newE s t], pc := 46 } else { t with pc := 46 } : Sl.Thread) = { t with pc := 46 } := if_neg hng
  refine ret0n rfl hF ⟨rfl, ?_⟩
  unfold ownS
  rw [if_neg c17, if_neg c31, if_pos c48, e45]
  exact (Sep.headp (A := [_, _, _, _, _]) (B := [_, _, _, _]) hS [1, 3, 2, 4] (by decide) rfl rfl)
 refine rg hF rfl fun a hF => ?_
 refine cx 103 hF rfl (fun c103 hF => ?_) fun c103 hF => ?_
 ·
  refine ws fun K13 hK13 => ?_
  refine ga 4 hF rfl fun a hF => ?_
  refine wl hF rfl rfl rfl (r_loadn ag25 (hF.ev rfl) (hS.boxn (vs := [_, _, _, _, _, _]) (i := 0) (m := 6) rfl rfl) sz25) fun a hF => ?_
  refine ga 1 hF rfl fun a hF => ?_
  refine ckr hF hS rfl (specHazardCell_c _ _ _) fun w19 a hS hF => ?_
  refine ck hF rfl (l9Put_c (s := s) hS) ?_; rintro v w20 a ⟨rfl, hS⟩ hF
  refine wl_nil (hK13 _ _ ?_)
  refine wp_region_lit ?_
  refine ga 3 hF rfl fun a hF => ?_
  refine wl_estore (q := 3) (j := 0) (⟨_, ⟨_, _, _⟩, ⟨_, _⟩, _, _, _, _, _, _, _, _, _, _, _, _, _⟩ : Sl.Thread) hF hS hp rfl sz3 (hF.ev rfl) rfl ec rfl (fun _ => rfl) (fun _ => by dsimp only [threadEK, Thread.encv, List.set] <;> rfl) (by intro _; rfl) fun w21 hS => ?_; dsimp only [List.set] at hS
  refine wl_nil ?_
  refine xt ?_
  refine ret0n rfl hF ⟨rfl, ?_⟩
  unfold ownS
  rw [if_neg c17, if_neg c31, if_neg c48, if_pos c103]
  exact hS
 refine rg hF rfl fun a hF => ?_
 refine cx 116 hF rfl (fun c116 hF => ?_) fun c116 hF => ?_
 ·
  refine ws fun K15 hK15 => ?_
  refine ga 4 hF rfl fun a hF => ?_
  refine wl hF rfl rfl rfl (r_loadn ag25 (hF.ev rfl) (hS.boxn (vs := [_, _, _, _, _, _]) (i := 0) (m := 6) rfl rfl) sz25) fun a hF => ?_
  refine ga 1 hF rfl fun a hF => ?_
  refine ckr hF hS rfl (specHazardCell_c _ _ _) fun w22 a hS hF => ?_
  refine ck hF rfl (l9Put_c (s := s) hS) ?_; rintro v w23 a ⟨rfl, hS⟩ hF
  refine wl_nil (hK15 _ _ ?_)
  refine wp_seq_k fun K16 hK16 => ?_
  refine wp_seq_k fun K17 hK17 => ?_
  refine wp_region_calm (by kernel_rfl) (by kernel_rfl) ?_
  refine qa 3 hF tk rfl fun a hF => ?_
  refine wq hF rfl rfl rfl (fun w_ hB_ => r_loadn ag25 (hF.ev rfl) ((hS.ext hB_).boxn (vs := [_, _, _, _, _, _]) (i := 0) (m := 6) rfl rfl) sz25) fun a hF => ?_
  refine qa 2 hF tk rfl fun a hF => ?_
  obtain ⟨ce132, ke132, ze132, he132⟩ := hS.eltK (q := 3) hp rfl; have kk132 := ke132; obtain ⟨u132_0, u132_1, u132_2, u132_3, u132_4, rfl, f132_0, f132_1, f132_2, f132_3, f132_4⟩ := ke132
  refine wq hF rfl rfl rfl (fun w_ hB_ => r_loadn ag42 (hF.ev rfl) (fun j_ u_ hu_ => cellB hB_ (he132 j_ u_ hu_)) sz42) fun a hF => ?_
  refine qk hF rfl (fun w_ hB_ => specMustFlush_c (c := s.config) (threadEK.ext hB_ kk132)) fun a hF => ?_
  refine qa 1 hF tk rfl fun a hF => ?_
  refine wpQuiet_nil ?_; intro w24 hB_; have hS := hS.ext hB_
  refine hK17 _ _ ?_
  refine cx 134 hF rfl (fun c134 hF => ?_) fun c134 hF => ?_
  ·
   replace c134 : ¬ mustFlush s.config t = true := by rw [c134]; decide
   refine ws fun K18 hK18 => ?_
   refine ga 2 hF rfl fun a hF => ?_
   replace hS := Sep.headp (A := [_, _, _, _]) (B := [_, _, _, _]) hS [0, 3, 1, 2] (by decide) rfl rfl
   refine ck hF rfl (l10Finish_c (s := putS s (hazardCell s.config (p : Int) 1) 0) hp hS) ?_; rintro v w25 a ⟨rfl, hS⟩ hF
   refine wl_nil (hK18 _ _ ?_)
   refine wp_ret ?_
   refine xt ?_
   refine ret0 rfl hF ⟨rfl, ?_⟩
   unfold ownS
   rw [if_neg c17, if_neg c31, if_neg c48, if_neg c103, if_pos c116, if_neg c134]
   exact (Sep.headp (A := [_, _, _, _]) (B := [_, _, _, _]) hS [0, 2, 3, 1] (by decide) rfl rfl)
  refine wp_skip ?_
  refine hK16 _ _ ?_
  refine ws fun K19 hK19 => ?_
  refine ga 1 hF rfl fun a hF => ?_
  replace hS := Sep.headp (A := [_, _, _, _]) (B := [_, _, _, _]) hS [3, 0, 1, 2] (by decide) rfl rfl
  refine ck hF rfl (l10Clear_c hp hS) ?_; rintro v w26 a ⟨rfl, hS⟩ hF
  refine wl_nil (hK19 _ _ ?_)
  refine wp_region_lit ?_
  refine ga 3 hF rfl fun a hF => ?_
  refine wl_estore (q := 0) (j := 0) (⟨_, ⟨_, _, _⟩, ⟨_, _⟩, _, _, _, _, _, _, _, _, _, _, _, _, _⟩ : Sl.Thread) hF hS hp rfl sz3 (hF.ev rfl) rfl ec rfl (fun _ => rfl) (fun _ => by dsimp only [threadEK, Thread.encv, List.set] <;> rfl) (by intro _; rfl) fun w27 hS => ?_; dsimp only [List.set] at hS
  refine wl_nil ?_
  refine xt ?_
  refine ret0n rfl hF ⟨rfl, ?_⟩
  unfold ownS
  rw [if_neg c17, if_neg c31, if_neg c48, if_neg c103, if_pos c116, if_pos c134]
  exact (Sep.headp (A := [_, _, _, _]) (B := [_, _, _, _]) hS [1, 2, 3, 0] (by decide) rfl rfl)
 refine wp_skip ?_
 refine xt ?_
 refine ret0n rfl hF ⟨rfl, ?_⟩
 unfold ownS
 rw [if_neg c17, if_neg c31, if_neg c48, if_neg c103, if_neg c116]
 exact hS
end Go.Proofs.YtgofolgogfmhgaaGreat.Wk
namespace Go.Proofs.YtgofolgogfmhgaaGreat.Wk
open Go Go.RowKit Sl
set_option linter.unusedVariables false
set_option linter.unusedSimpArgs false
set_option maxRecDepth 20000
def foundN (t : Sl.Thread) (n : Int) : List Int := if n = 0 then t.found else t.found ++ [n]
def freeStep (z : List Int × List Int) (h : Int) : List Int × List Int := if at0 z.1 (indexOf h) < 9998 ∧ (z.2.length : Int) < 100 then (z.1.set (indexOf h).toNat (IntKind.i64.wrap (at0 z.1 (indexOf h) + 1)), z.2 ++ [indexOf h]) else z
def freeAll (gs fr hs : List Int) : List Int × List Int := hs.foldl freeStep (gs, fr)
def scanN (s : Sl.State) (t : Sl.Thread) : Int := loadC s.cells (hazardCell s.config (IntKind.i64.wrap (t.at_.tdiv 2)) (t.at_.tmod 2))
def reclaimS (s : Sl.State) (t : Sl.Thread) (p : Int) : Sl.State × Sl.Thread :=
  if IntKind.i64.wrap (t.at_ + 1) < IntKind.i64.wrap (2 * s.config.threads) then (s, { t with found := foundN t (scanN s t), at_ := IntKind.i64.wrap (t.at_ + 1) })
  else ({ s with generations := (freeAll s.generations t.free (splitOut t.limbo (foundN t (scanN s t)))).1 }, endT t 0 0 |> fun x => { x with limbo := splitIn t.limbo (foundN t (scanN s t)), free := (freeAll s.generations t.free (splitOut t.limbo (foundN t (scanN s t)))).2 })
def isC (n : Int) : Bool := decide (n = 70)
section
variable {gs fr hs : List Int} {h : Int} {k : Nat}
theorem freeAll_yes (hx : hs[k]? = some h) (hc : at0 (freeAll gs fr (hs.take k)).1 (indexOf h) < 9998 ∧ ((freeAll gs fr (hs.take k)).2.length : Int) < 100) :
    freeAll gs fr (hs.take (k + 1)) = ((freeAll gs fr (hs.take k)).1.set (indexOf h).toNat (IntKind.i64.wrap (at0 (freeAll gs fr (hs.take k)).1 (indexOf h) + 1)), (freeAll gs fr (hs.take k)).2 ++ [indexOf h]) := by
  rw [List.take_add_one, hx]
  unfold freeAll at hc ⊢
  rw [List.foldl_append]
  simp only [Option.toList_some, List.foldl_cons, List.foldl_nil]
  exact if_pos hc
theorem freeAll_no (hx : hs[k]? = some h) (hc : ¬ (at0 (freeAll gs fr (hs.take k)).1 (indexOf h) < 9998 ∧ ((freeAll gs fr (hs.take k)).2.length : Int) < 100)) :
    freeAll gs fr (hs.take (k + 1)) = freeAll gs fr (hs.take k) := by
  rw [List.take_add_one, hx]
  unfold freeAll at hc ⊢
  rw [List.foldl_append]
  simp only [Option.toList_some, List.foldl_cons, List.foldl_nil]
  exact if_neg hc
theorem freeStep_len {z : List Int × List Int} : (freeStep z h).1.length = z.1.length ∧ (freeStep z h).2.length ≤ z.2.length + 1 := by
 unfold freeStep
 split
 · exact ⟨by simp, by simp⟩
 · exact ⟨rfl, by omega⟩
theorem foldl_len : ∀ (hs : List Int) (z : List Int × List Int), (hs.foldl freeStep z).1.length = z.1.length ∧ (hs.foldl freeStep z).2.length ≤ z.2.length + hs.length
  | [], z => ⟨rfl, by simp⟩
  | h :: hs, z => by
    have h1 := foldl_len hs (freeStep z h)
    have h2 := freeStep_len (z := z) (h := h)
    simp only [List.foldl_cons, List.length_cons]
    exact ⟨h1.1.trans h2.1, by omega⟩
theorem freeAll_len : (freeAll gs fr hs).1.length = gs.length := (foldl_len hs (gs, fr)).1
theorem freeAll_free : (freeAll gs fr hs).2.length ≤ fr.length + hs.length := (foldl_len hs (gs, fr)).2
end
theorem split_len (xs ys : List Int) : (splitIn xs ys).length + (splitOut xs ys).length = xs.length := by
 unfold splitIn splitOut
 induction xs with
 | nil => rfl
 | cons x xs ih =>
   simp only [List.filter_cons]
   by_cases h : x ∈ ys <;> simp [h] <;> omega
theorem reclaim_steps (s : Sl.State) (t : Sl.Thread) (p : Int) : reclaimS (stepped s) t p = (stepped (reclaimS s t p).1, (reclaimS s t p).2) := by
 have e0 : scanN (stepped s) t = scanN s t := rfl
 unfold reclaimS
 rw [e0, show (stepped s).config = s.config from rfl, show (stepped s).generations = s.generations from rfl]
 split <;> rfl
theorem foundN_len {t : Sl.Thread} {n : Int} : (foundN t n).length ≤ t.found.length + 1 := by unfold foundN; split <;> simp
theorem reclaimS_size (s : Sl.State) (t : Sl.Thread) (p : Int) : ((reclaimS s t p).1.cells.length = s.cells.length ∧ (reclaimS s t p).1.generations.length = s.generations.length) ∧ (reclaimS s t p).2.size ≤ t.size + 1 := by
 have h1 := foundN_len (t := t) (n := scanN s t)
 have h2 := split_len t.limbo (foundN t (scanN s t))
 have h3 := freeAll_free (gs := s.generations) (fr := t.free) (hs := splitOut t.limbo (foundN t (scanN s t)))
 unfold reclaimS
 split
 · refine ⟨⟨rfl, rfl⟩, ?_⟩
   unfold Sl.Thread.size; dsimp only; omega
 · refine ⟨⟨rfl, freeAll_len⟩, ?_⟩
   unfold endT clearT Sl.Thread.size; dsimp only; simp only [List.length_nil]; omega
theorem Fit.nodes {s : Sl.State} {t : Sl.Thread} (hf : Fit s t) {ys : List Int} {h : Int} (hm : h ∈ splitOut t.limbo ys) : int64 h ∧ 0 ≤ indexOf h ∧ indexOf h < s.config.capacity := by
 have h1 : h ∈ t.limbo := by unfold splitOut at hm; exact (List.mem_filter.1 hm).1
 have h2 := hf.th
 unfold threadOk at h2; simp only [Bool.and_eq_true] at h2
 have h3 := List.all_eq_true.1 h2.1.2 h h1
 unfold isNode at h3; simp only [Bool.and_eq_true, decide_eq_true_eq] at h3
 exact ⟨hf.wt.2.2.2.2.2.2.2.2.2.2.2.2.2.2.2 h h1, indexOf_pos h3.1, h3.2⟩
theorem l16Scan_c {W w : World} {l : List Res} {g gt ot mt ct p : Nat} {z0 z1 : Slv} {s : Sl.State} {t : Sl.Thread} (hp : p < s.threads.length) (hf : Fit s t) (hS : Sep W (Box g ((s).encv (sv z0) (sv z1) (.slice (some ⟨gt, ot, none⟩) mt ct)) :: Own intEK (sv z0) (s).cells :: Own intEK (sv z1) (s).generations :: Own threadEK (.slice (some ⟨gt, ot, none⟩) mt ct) (s.threads.set p t) :: l) w) : Calls Tryz.prog 61 #[.pointer (some ⟨g, 0, none⟩), vi (p : Int)] w (Ret fun v w' => v = .tuple #[] ∧ Sep W (Box g (((reclaimS s t (p : Int)).1).encv (sv z0) (sv z1) (.slice (some ⟨gt, ot, none⟩) mt ct)) :: Own intEK (sv z0) ((reclaimS s t (p : Int)).1).cells :: Own intEK (sv z1) ((reclaimS s t (p : Int)).1).generations :: Own threadEK (.slice (some ⟨gt, ot, none⟩) mt ct) (s.threads.set p (reclaimS s t (p : Int)).2) :: l) w') := by
 refine calls_fr Tryz.func61 rfl Tryz.ntmps61 rfl ?_
 intro a hF
 have hl0 := hS.own_len (q := 1) rfl
 have hl1 := hS.own_len (q := 2) rfl
 have hmt : mt = s.threads.length := by have := hS.own_len (q := 3) (s := (some ⟨gt, ot, none⟩, mt, ct)) rfl; simpa using this
 have hz1 := hf.sizes; unfold sizesOk at hz1
 refine ws fun K1 hK1 => ?_
 refine gb 5 0 hF hS rfl rfl rfl fun a hF => ?_
 refine wl hF rfl rfl rfl (r_index sl27 (hF.ev rfl) (hF.ev rfl) (by omega) (by first | omega | (dsimp only; omega))) fun a hF => ?_
 refine ge hK1 hF rfl fun a hF => ?_
 refine wp_seq_k fun K2 hK2 => ?_
 refine wp_region_calm (by kernel_rfl) (by kernel_rfl) ?_
 refine qa 4 hF tk rfl fun a hF => ?_
 refine wq hF rfl rfl rfl (fun w_ hB_ => r_loadn ag25 (hF.ev rfl) ((hS.ext hB_).boxn (vs := [_, _, _, _, _, _]) (i := 0) (m := 6) rfl rfl) sz25) fun a hF => ?_
 refine qa 3 hF tk rfl fun a hF => ?_
 refine wq hF rfl rfl rfl (fun w_ hB_ => r_load1 sc3 (hF.ev rfl) ((hS.ext hB_).elt1 (q := 3) (j := 13) hp rfl (fun _ => rfl))) fun a hF => ?_
 refine wq hF rfl rfl rfl (fun w_ hB_ => r_quo (by first | decide | omega) (hF.ev rfl) ec) fun a hF => ?_
 refine qa 3 hF tk rfl fun a hF => ?_
 refine wq hF rfl rfl rfl (fun w_ hB_ => r_load1 sc3 (hF.ev rfl) ((hS.ext hB_).elt1 (q := 3) (j := 13) hp rfl (fun _ => rfl))) fun a hF => ?_
 refine wq hF rfl rfl rfl (fun w_ hB_ => r_rem (by first | decide | omega) (hF.ev rfl) ec) fun a hF => ?_
 refine qk hF rfl (fun w_ hB_ => specHazardCell_c _ _ _) fun a hF => ?_
 refine qk hF rfl (fun w_ hB_ => l9LoadR_c (fun j u hu => (hS.ext hB_).box7 (i := 0) rfl j u hu) ((hS.ext hB_).own_rd (i := 1) rfl)) fun a hF => ?_
 refine qa 1 hF tk rfl fun a hF => ?_
 refine wpQuiet_nil ?_; intro w1 hB_; have hS := hS.ext hB_
 refine hK2 _ _ ?_
 refine wp_cut (fun a w => Sep W (Box g (s.encv (sv z0) (sv z1) (.slice (some ⟨gt, ot, none⟩) mt ct)) :: Own intEK (sv z0) s.cells :: Own intEK (sv z1) s.generations :: Own threadEK (.slice (some ⟨gt, ot, none⟩) mt ct) (s.threads.set p ({ t with found := (foundN t (scanN s t)) })) :: l) w ∧ Fr 134 [(0, .pointer (some ⟨g, 0, none⟩)), (1, vi (p : Int)), (4, .pointer (some ⟨gt, ot + p * 19, none⟩))] a) ?_ ?_
 ·
  refine rg hF rfl fun a hF => ?_
  refine cx 34 hF rfl (fun c34 hF => ?_) fun c34 hF => ?_
  ·
   obtain ⟨A0_, A1_, A2_, A3_, A4_, k0_, k1_, k2_, k3_, k4_, ⟨n0_, n1_, n2_, n3_, n4_⟩, ⟨q0_, q1_, q2_, q3_, q4_⟩, hS_⟩ := Sep.thr_lend (t := t) (Sep.headp (A := [_, _, _, _]) (B := [_, _, _, _]) hS [3, 0, 1, 2] (by decide) rfl rfl) hp; replace hS := hS_; clear hS_; unfold maxLen at n0_ n1_ n2_ n3_ n4_; try dsimp only at n0_ n1_ n2_ n3_ n4_ q0_ q1_ q2_ q3_ q4_
   dsimp only [Thread.encv] at hS
   refine wp_region_lit ?_
   refine ga 4 hF rfl fun a hF => ?_
   refine wl hF rfl rfl rfl (r_load1 sc26 (hF.ev rfl) (hS.but1 (q := 5) (j := 14) rfl rfl)) fun a hF => ?_
   refine ga 1 hF rfl fun a hF => ?_
   refine wl_bslice intEK [vi (scanN s t)] [scanN s t] rfl hF hS rfl mk26 rfl ⟨rfl, (hF.ev rfl), trivial⟩ rfl rfl rfl rfl fun gl_41 w2 a hS hF => ?_
   refine wl_append (q := 1) hF hS rfl rfl (hS.own_rd (i := 0) rfl) mk26 rfl (hF.ev rfl) (hF.ev rfl) (by simp; omega) (by unfold maxLen; simp; omega) ?_; intro A_42 c_42 w3 a hS_ hF; replace hS := hS_; clear hS_; dsimp only [List.set, List.length_cons, List.length_nil] at hS hF
   refine ga 2 hF rfl fun a hF => ?_
   refine wl_bstore (q := 6) (j := 14) hF hS rfl sz26 (hF.ev rfl) rfl (hF.ev rfl) rfl rfl fun w4 hS => ?_; dsimp only [List.set] at hS
   refine wl_nil ?_
   refine xt ?_
   have e0 : (foundN t (scanN s t)) = t.found ++ [scanN s t] := if_neg c34
   replace hS := Sep.thr_back (t' := { t with found := t.found ++ [scanN s t] }) (y0 := (_, _, _)) (y1 := (_, _, _)) (y2 := (_, _, _)) (y3 := (_, _, _)) (y4 := (_, _, _)) (Sep.headp (A := [_, _, _, _, _, _, _, _, _, _]) (B := [_, _, _, _, _, _, _, _, _, _]) hS [1, 2, 3, 4, 5, 6, 0, 7, 8, 9] (by decide) rfl rfl) rfl
   rw [e0]
   exact ⟨(Sep.headp (A := [_, _, _, _, _]) (B := [_, _, _, _]) hS [2, 3, 4, 0] (by decide) rfl rfl), (((hF.nil.keepE hF (t := 4) rfl rfl).keepE hF (t := 1) rfl rfl).keepE hF (t := 0) rfl rfl)⟩
  refine wp_skip ?_
  refine xt ?_
  have e0 : (foundN t (scanN s t)) = t.found := if_pos c34
  rw [e0]
  exact ⟨hS, (((hF.nil.keepE hF (t := 4) rfl rfl).keepE hF (t := 1) rfl rfl).keepE hF (t := 0) rfl rfl)⟩
 rintro a w5 ⟨hS, hF⟩
 refine ws fun K4 hK4 => ?_
 refine ga 4 hF rfl fun a hF => ?_
 refine wl hF rfl rfl rfl (r_load1 sc3 (hF.ev rfl) (hS.elt1 (q := 3) (j := 13) hp rfl (fun _ => rfl))) fun a hF => ?_
 refine ga 3 hF rfl fun a hF => ?_
 refine wl_estore (q := 3) (j := 13) (⟨_, ⟨_, _, _⟩, ⟨_, _⟩, _, _, _, _, _, _, _, _, _, _, _, _, _⟩ : Sl.Thread) hF hS hp rfl sz3 (hF.ev rfl) rfl (hF.ev rfl) rfl (fun _ => rfl) (fun _ => by dsimp only [threadEK, Thread.encv, List.set] <;> rfl) (by intro _; rfl) fun w6 hS => ?_; dsimp only [List.set] at hS
 refine wl_nil (hK4 _ _ ?_)
 refine wp_seq_k fun K5 hK5 => ?_
 refine wp_seq_k fun K6 hK6 => ?_
 refine wp_region_calm (by kernel_rfl) (by kernel_rfl) ?_
 refine qa 3 hF tk rfl fun a hF => ?_
 refine wq hF rfl rfl rfl (fun w_ hB_ => r_load1 sc3 (hF.ev rfl) ((hS.ext hB_).elt1 (q := 3) (j := 13) hp rfl (fun _ => rfl))) fun a hF => ?_
 refine qb 7 0 hF tk hS rfl rfl rfl fun a hF => ?_
 refine wpQuiet_nil ?_; intro w7 hB_; have hS := hS.ext hB_
 refine hK6 _ _ ?_
 refine cx 63 hF rfl (fun c63 hF => ?_) fun c63 hF => ?_
 ·
  refine wp_ret ?_
  refine xt ?_
  refine ret0 rfl hF ⟨rfl, ?_⟩
  unfold reclaimS
  rw [if_pos c63]
  exact hS
 obtain ⟨A0_, A1_, A2_, A3_, A4_, k0_, k1_, k2_, k3_, k4_, ⟨n0_, n1_, n2_, n3_, n4_⟩, ⟨q0_, q1_, q2_, q3_, q4_⟩, hS_⟩ := Sep.thr_lend (t := { t with found := (foundN t (scanN s t)), at_ := IntKind.i64.wrap (t.at_ + 1) }) (Sep.headp (A := [_, _, _, _]) (B := [_, _, _, _]) hS [3, 0, 1, 2] (by decide) rfl rfl) hp; replace hS := hS_; clear hS_; unfold maxLen at n0_ n1_ n2_ n3_ n4_; try dsimp only at n0_ n1_ n2_ n3_ n4_ q0_ q1_ q2_ q3_ q4_
 dsimp only [Thread.encv] at hS
 have hgl0 := hf.lg
 refine wp_skip ?_
 refine hK5 _ _ ?_
 refine wp_seq_k fun K7 hK7 => ?_
 refine wp_region_todo (is := [0, 1, 2, 3, 4, 5, 6, 7, 8, 9, 10, 11, 12, 13]) [] [] (by kernel_rfl) hF hS ⟨trivial, by decide, by decide, by decide⟩ (by kernel_rfl) ?_; intro hl_ wd hSd
 refine todo_pure hl_ (by kernel_rfl) rfl (gw0 rfl) rfl rfl rfl (fun a w_ hF => r_move (hF.ev rfl)) ?_
 refine todo_pure hl_ (by kernel_rfl) rfl (gw0 rfl) rfl rfl rfl (fun a w_ hF => r_nilCheck (hF.ev rfl)) ?_
 refine todo_pure hl_ (by kernel_rfl) rfl (gw0 rfl) rfl rfl rfl (fun a w_ hF => r_field fo42_15 (hF.ev rfl)) ?_
 refine todo_load [8, 9, 10, 11, 12, 13] hl_ (by kernel_rfl) rfl (gw0 rfl) rfl rfl rfl (fun a w_ hF hB_ => r_load1 sc26 (hF.ev rfl) ((hSd.ext hB_).but1 (q := 5) (j := 18) rfl rfl)) ?_
 refine todo_pure hl_ (by kernel_rfl) rfl (gw0 rfl) rfl rfl rfl (fun a w_ hF => r_move (hF.ev rfl)) ?_
 refine todo_pure hl_ (by kernel_rfl) rfl (gw0 rfl) rfl rfl rfl (fun a w_ hF => r_nilCheck (hF.ev rfl)) ?_
 refine todo_pure hl_ (by kernel_rfl) rfl (gw0 rfl) rfl rfl rfl (fun a w_ hF => r_field fo42_11 (hF.ev rfl)) ?_
 refine todo_load [8, 9, 10, 11, 12, 13] hl_ (by kernel_rfl) rfl (gw0 rfl) rfl rfl rfl (fun a w_ hF hB_ => r_load1 sc26 (hF.ev rfl) ((hSd.ext hB_).but1 (q := 5) (j := 14) rfl rfl)) ?_
 refine todo_mk hl_ rfl (by kernel_rfl) rfl rfl rfl rfl rfl (fun a w_ hF => r_call2 en19 (hF.ev rfl) (hF.ev rfl)) (fun w_ hS => specSplit_c (hS.own_rd (i := 4) rfl) (hS.own_rd (i := 0) rfl) (by omega)) ?_; rintro ⟨p73, q73⟩
 refine todo_pure hl_ (by kernel_rfl) rfl (gw0 rfl) rfl rfl rfl (fun a w_ hF => r_move (hF.ev rfl)) ?_
 refine todo_pure hl_ (by kernel_rfl) rfl (gw0 rfl) rfl rfl rfl (fun a w_ hF => r_extract (hF.ev rfl) rfl) ?_
 refine todo_pure hl_ (by kernel_rfl) rfl (gw0 rfl) rfl rfl rfl (fun a w_ hF => r_extract (hF.ev rfl) rfl) ?_
 refine todo_pure hl_ (by kernel_rfl) rfl (gw0 rfl) rfl rfl rfl (fun a w_ hF => r_assign (hF.ev rfl)) ?_
 refine todo_pure hl_ (by kernel_rfl) rfl (gw0 rfl) rfl rfl rfl (fun a w_ hF => r_assign (hF.ev rfl)) ?_
 refine todo_fin hl_ rfl (by kernel_rfl) (tl := []) rfl ?_; intro a w8 hF hA_
 have hS := hA_.sep; clear hA_
 clear hl_; try clear hSd
 try dsimp only [List.cons_append, List.nil_append, List.set] at hS
 try clear wd
 refine wl_nil ⟨rfl, ?_⟩
 refine hK7 _ _ ?_
 refine ws fun K8 hK8 => ?_
 refine wl hF rfl rfl rfl (r_move (hF.ev rfl)) fun a hF => ?_
 obtain ⟨⟨Ap, np, cp⟩, rfl⟩ := hS.own_sv (q := 0) rfl; obtain rfl : np = _ := hS.own_len (q := 0) (s := (Ap, np, cp)) rfl
 obtain ⟨⟨Aq, nq, cq⟩, rfl⟩ := hS.own_sv (q := 1) rfl; obtain rfl : nq = _ := hS.own_len (q := 1) (s := (Aq, nq, cq)) rfl
 have hq1 := out_le' t.limbo (foundN t (scanN s t))
 replace hS : Sep W (Own intEK (.slice Ap _ cp) _ :: Own intEK (.slice Aq _ cq) _ :: _) _ := hS
 try dsimp only at hF
 refine ga 3 hF rfl fun a hF => ?_
 refine wl_bstore (q := 7) (j := 18) hF hS rfl sz26 (hF.ev rfl) rfl (hF.ev rfl) rfl rfl fun w9 hS => ?_; dsimp only [List.set] at hS
 refine wl_nil (hK8 _ _ ?_)
 refine wp_seq_k fun K9 hK9 => ?_
 refine rg hF rfl fun a hF => ?_
 refine wp_block ?_
 replace hS := hS.pull (p := 7) rfl; dsimp only [List.eraseIdx] at hS
 replace hS := hS.pull (p := 10) rfl; dsimp only [List.eraseIdx] at hS
 replace hS := hS.pull (p := 5) rfl; dsimp only [List.eraseIdx] at hS
 have hL_ := ((((hF.nil.keep hF (t := 7) rfl).keep hF (t := 4) rfl).keep hF (t := 1) rfl).keep hF (t := 0) rfl)
 refine wp_loop_m (σ := Nat × Slv) (fun z L_ => (8, vi z.1) :: L_) (fun z l_ => (Own intEK (sv z.2) (freeAll s.generations t.free ((splitOut t.limbo (foundN t (scanN s t))).take z.1)).2) :: (Own intEK (sv z1) (freeAll s.generations t.free ((splitOut t.limbo (foundN t (scanN s t))).take z.1)).1) :: (OwnBut threadEK (.slice (some ⟨gt, ot, none⟩) mt ct) (s.threads.set p ({ t with found := (foundN t (scanN s t)), at_ := IntKind.i64.wrap (t.at_ + 1) })) p (Thread.encv ({ t with found := (foundN t (scanN s t)), at_ := IntKind.i64.wrap (t.at_ + 1) }) (.slice A0_ (foundN t (scanN s t)).length k0_) (sv z.2) (.slice A2_ t.buffer.length k2_) (.slice A3_ t.work.length k3_) (.slice Ap (splitIn t.limbo (foundN t (scanN s t))).length cp))) :: l_) (fun z => (z.1 ≤ (splitOut t.limbo (foundN t (scanN s t))).length)) (fun z => (splitOut t.limbo (foundN t (scanN s t))).length - z.1) (0, (A1_, t.free.length, k1_)) (hS) (hL_.keepE hF (t := 8) rfl rfl) ?_ ?_
 · exact Nat.zero_le _
 rintro ⟨k, Af, nf, cf⟩ a w10 hk hS hF; try dsimp only at hF; try dsimp only at hS; try dsimp only at hk
 obtain rfl : nf = _ := hS.own_len (q := 0) (s := (Af, nf, cf)) rfl
 replace hS : Sep W (Own intEK (.slice Af _ cf) _ :: _) _ := hS
 refine wp_seq_k fun K11 hK11 => ?_
 refine rg hF rfl fun a hF => ?_
 refine cx 83 hF rfl (fun c83 hF => ?_) fun c83 hF => ?_
 ·
  have hlt : k < (splitOut t.limbo (foundN t (scanN s t))).length := by omega
  have hx := at0_nat hlt
  have hm_ : at0 (splitOut t.limbo (foundN t (scanN s t))) (k : Int) ∈ splitOut t.limbo (foundN t (scanN s t)) := at0_mem (by omega) (by omega)
  obtain ⟨hh1, hi0, hi1⟩ := hf.nodes hm_
  have hgl := freeAll_len (gs := s.generations) (fr := t.free) (hs := (splitOut t.limbo (foundN t (scanN s t))).take k)
  refine wp_skip ?_
  refine hK11 _ _ ?_
  refine wp_seq_k fun K13 hK13 => ?_
  refine wp_block ?_
  refine ws fun K14 hK14 => ?_
  refine ga 2 hF rfl fun a hF => ?_
  obtain ⟨g88, o88, m88, q88, hv88, hm88, hl88, hc88⟩ := Rd.atF ((hS.own_rd (i := 4) rfl)) (a := a) (X := .tmp 87) (hF.ev rfl) (by omega) (by omega)
  refine wl hF rfl rfl rfl (r_index sl26 ((hF.ev rfl).trans hv88) (hF.ev rfl) (by omega) (by first | omega | (simp at hm88; omega))) fun a hF => ?_
  refine wl hF rfl rfl rfl (r_load1 sc3 (hF.ev rfl) (hc88 0 _ rfl)) fun a hF => ?_
  refine ckr hF hS rfl (specIndexOf_c hh1) fun w11 a hS hF => ?_
  refine ge hK14 hF rfl fun a hF => ?_
  refine ws fun K15 hK15 => ?_
  refine gb 5 9 hF hS rfl rfl rfl fun a hF => ?_
  obtain ⟨g96, o96, m96, q96, hv96, hm96, hl96, hc96⟩ := Rd.atF ((hS.own_rd (i := 1) rfl)) (a := a) (X := .tmp 95) (hF.ev rfl) (by omega) (by omega)
  refine wl hF rfl rfl rfl (r_index sl26 ((hF.ev rfl).trans hv96) (hF.ev rfl) (by omega) (by first | omega | (simp at hm96; omega))) fun a hF => ?_
  refine wl hF rfl rfl rfl (r_load1 sc3 (hF.ev rfl) (hc96 0 _ rfl)) fun a hF => ?_
  refine ga 2 hF rfl fun a hF => ?_
  apply wa 7 99 106 hF hS
  ·
   intro hg99 a hF
   refine ga 3 hF rfl fun a hF => ?_
   refine wl_take hF rfl rfl rfl rfl ?_
   refine wl hF rfl rfl rfl (r_load1 sc26 (hF.ev rfl) (hS.but1 (q := 2) (j := 15) rfl rfl)) fun a hF => ?_
   exact je 7 hF hS rfl rfl rfl rfl
  intro a w12 hF hS
  refine wl_nil (hK15 _ _ ?_)
  refine cx 106 hF rfl (fun c106 hF => ?_) fun c106 hF => ?_
  ·
   refine wp_seq_k fun K16 hK16 => ?_
   refine wp_region_todo (is := [0, 1, 2, 3, 4, 5, 6, 7, 8, 9, 10, 11, 12, 13, 14]) [] [14] (by kernel_rfl) hF hS ⟨trivial, by decide, by decide, by decide⟩ (by kernel_rfl) ?_; intro hl_ wd hSd
   refine todo_pure hl_ (by kernel_rfl) rfl (gw0 rfl) rfl rfl rfl (fun a w_ hF => r_move (hF.ev rfl)) ?_
   refine todo_pure hl_ (by kernel_rfl) rfl (gw0 rfl) rfl rfl rfl (fun a w_ hF => r_nilCheck (hF.ev rfl)) ?_
   refine todo_pure hl_ (by kernel_rfl) rfl (gw0 rfl) rfl rfl rfl (fun a w_ hF => r_field fo29_2 (hF.ev rfl)) ?_
   refine todo_load [13, 14] hl_ (by kernel_rfl) rfl (gw0 rfl) rfl rfl rfl (fun a w_ hF hB_ => r_load1 sc26 (hF.ev rfl) ((hSd.ext hB_).box (i := 9) rfl rfl)) ?_
   refine todo_pure hl_ (by kernel_rfl) rfl (gw0 rfl) rfl rfl rfl (fun a w_ hF => r_move (hF.ev rfl)) ?_
   refine todo_pure hl_ (by kernel_rfl) rfl (gw0 rfl) rfl rfl rfl (fun a w_ hF => r_move (hF.ev rfl)) ?_
   refine todo_pure hl_ (by kernel_rfl) rfl (gw0 rfl) rfl rfl rfl (fun a w_ hF => r_nilCheck (hF.ev rfl)) ?_
   refine todo_pure hl_ (by kernel_rfl) rfl (gw0 rfl) rfl rfl rfl (fun a w_ hF => r_field fo29_2 (hF.ev rfl)) ?_
   refine todo_load [10, 11, 12, 13, 14] hl_ (by kernel_rfl) rfl (gw0 rfl) rfl rfl rfl (fun a w_ hF hB_ => r_load1 sc26 (hF.ev rfl) ((hSd.ext hB_).box (i := 9) rfl rfl)) ?_
   refine todo_pure hl_ (by kernel_rfl) rfl (gw0 rfl) rfl rfl rfl (fun a w_ hF => r_move (hF.ev rfl)) ?_
   obtain ⟨g117, o117, m117, q117, hv117, hm117, hl117, hc117⟩ := Rd.idxF ((hSd.own_rd (i := 1) rfl)) (at0_get (i := (indexOf (at0 (splitOut t.limbo (foundN t (scanN s t))) (k : Int)))) (by omega) (by omega))
   refine todo_pure hl_ (by kernel_rfl) rfl (gw0 rfl) rfl rfl rfl (fun a w_ hF => r_index sl26 ((hF.ev rfl).trans hv117) (hF.ev rfl) (by omega) (by first | omega | (simp at hm117; omega))) ?_
   refine todo_load [12, 13, 14] hl_ (by kernel_rfl) rfl (gw0 rfl) rfl rfl rfl (fun a w_ hF hB_ => r_load1 sc3 (hF.ev rfl) (cellB hB_ (hc117 0 _ rfl))) ?_
   refine todo_pure hl_ (by kernel_rfl) rfl (gw0 rfl) rfl rfl rfl (fun a w_ hF => r_add (hF.ev rfl) ec) ?_
   obtain ⟨g120, o120, m120, q120, hv120, hm120, hl120, hc120⟩ := Rd.idxF ((hSd.own_rd (i := 1) rfl)) (at0_get (i := (indexOf (at0 (splitOut t.limbo (foundN t (scanN s t))) (k : Int)))) (by omega) (by omega))
   refine todo_pure hl_ (by kernel_rfl) rfl (gw0 rfl) rfl rfl rfl (fun a w_ hF => r_index sl26 ((hF.ev rfl).trans hv120) (hF.ev rfl) (by omega) (by first | omega | (simp at hm120; omega))) ?_
   refine todo_fin hl_ rfl (by kernel_rfl) (tl := [_]) rfl ?_; intro a w13 hF hA_
   have hS := hA_.sep; clear hA_
   clear hl_; try clear hSd
   try dsimp only [List.cons_append, List.nil_append, List.set] at hS
   try clear wd
   refine wl_istore (q := 1) hF hS rfl hv120 (by omega) (by omega) sz3 (hF.ev rfl) rfl (hF.ev rfl) fun w14 hS => ?_; dsimp only [List.set] at hS
   refine wl_nil ⟨rfl, ?_⟩
   refine hK16 _ _ ?_
   refine wp_region_lit ?_
   refine ga 4 hF rfl fun a hF => ?_
   refine wl hF rfl rfl rfl (r_load1 sc26 (hF.ev rfl) (hS.but1 (q := 2) (j := 15) rfl rfl)) fun a hF => ?_
   refine ga 1 hF rfl fun a hF => ?_
   refine wl_bslice intEK [vi (indexOf (at0 (splitOut t.limbo (foundN t (scanN s t))) (k : Int)))] [indexOf (at0 (splitOut t.limbo (foundN t (scanN s t))) (k : Int))] rfl hF hS rfl mk26 rfl ⟨rfl, (hF.ev rfl), trivial⟩ rfl rfl rfl rfl fun gl_127 w15 a hS hF => ?_
   refine wl_append (q := 1) hF hS rfl rfl (hS.own_rd (i := 0) rfl) mk26 rfl (hF.ev rfl) (hF.ev rfl) (by simp; omega) (by unfold maxLen; simp; omega) ?_; intro A_128 c_128 w16 a hS_ hF; replace hS := hS_; clear hS_; dsimp only [List.set, List.length_cons, List.length_nil] at hS hF
   refine ga 2 hF rfl fun a hF => ?_
   refine wl_bstore (q := 3) (j := 15) hF hS rfl sz26 (hF.ev rfl) rfl (hF.ev rfl) rfl rfl fun w17 hS => ?_; dsimp only [List.set] at hS
   refine wl_nil ?_
   refine xt ?_
   refine hK13 _ _ ?_
   refine rl hF rfl fun a hF => ?_
   refine xt ?_
   have e_ := freeAll_yes (gs := s.generations) (fr := t.free) hx c106; have e1 := congrArg Prod.fst e_; have e2 := congrArg Prod.snd e_; dsimp only at e1 e2; rw [← e1, ← e2] at hS
   refine ⟨(k + 1, (_, _, _)), (by dsimp only; omega), (Sep.headp (A := [_, _, _, _, _, _, _, _, _, _, _, _]) (B := [_, _, _, _, _, _, _, _, _, _, _]) hS [1, 2, 3, 4, 5, 6, 7, 8, 9, 10, 11] (by decide) rfl rfl), (((((hF.nil.keep hF (t := 7) rfl).keep hF (t := 4) rfl).keep hF (t := 1) rfl).keep hF (t := 0) rfl).keepE hF (t := 8) rfl (wk (by omega))), by dsimp only; omega⟩
  refine wp_skip ?_
  refine xt ?_
  refine hK13 _ _ ?_
  refine rl hF rfl fun a hF => ?_
  refine xt ?_
  have e_ := freeAll_no (gs := s.generations) (fr := t.free) hx (by omega); rw [← e_] at hS
  refine ⟨(k + 1, (_, _, _)), (by dsimp only; omega), hS, (((((hF.nil.keep hF (t := 7) rfl).keep hF (t := 4) rfl).keep hF (t := 1) rfl).keep hF (t := 0) rfl).keepE hF (t := 8) rfl (wk (by omega))), by dsimp only; omega⟩
 obtain rfl : k = (splitOut t.limbo (foundN t (scanN s t))).length := by omega
 rw [List.take_length] at hS
 replace hS := Sep.thr_back (t' := { t with found := (foundN t (scanN s t)), at_ := IntKind.i64.wrap (t.at_ + 1), limbo := splitIn t.limbo (foundN t (scanN s t)), free := (freeAll s.generations t.free (splitOut t.limbo (foundN t (scanN s t)))).2 }) (y0 := (_, _, _)) (y1 := (_, _, _)) (y2 := (_, _, _)) (y3 := (_, _, _)) (y4 := (_, _, _)) (Sep.headp (A := [_, _, _, _, _, _, _, _, _, _, _]) (B := [_, _, _, _, _, _, _, _, _, _, _]) hS [5, 0, 6, 7, 3, 2, 1, 4, 8, 9, 10] (by decide) rfl rfl) rfl
 refine wp_exit ?_
 refine xt ?_
 refine hK9 _ _ ?_
 refine wp_region_lit ?_
 refine ga 2 hF rfl fun a hF => ?_
 replace hS := Sep.headp (A := [_, _, _, _, _, _]) (B := [_, _, _, _, _, _]) hS [4, 0, 1, 2, 3, 5] (by decide) rfl rfl
 refine ck hF rfl (l10Finish_c (s := s) hp hS) ?_; rintro v w18 a ⟨rfl, hS⟩ hF
 refine wl_nil ?_
 refine xt ?_
 refine ret0n rfl hF ⟨rfl, ?_⟩
 unfold reclaimS
 rw [if_neg c63]
 exact (Sep.headp (A := [_, _, _, _, _, _]) (B := [_, _, _, _]) hS [0, 5, 2, 1] (by decide) rfl rfl)
theorem specStepReclaim_c {W : World} {s : Sl.State} {cs : List Value} {p : Int} (hm : stateEK.K W s cs) (hw : s.wf) (hz : (s.size : Int) ≤ 1048576) (hp0 : int64 p) : Calls Tryz.prog 23 #[.agg cs.toArray, vi p] W (Ret (Mk W (fun vs => .tuple #[.agg (stateEK.cells (stepOf isC reclaimS s p).1 vs).toArray, .bool (stepOf isC reclaimS s p).2]) (fun vs => [Part stateEK (stepOf isC reclaimS s p).1 vs]))) := by
 refine calls_fr Tryz.func23 rfl Tryz.ntmps23 rfl ?_
 intro a hF
 have hS := Sep.refl W
 obtain ⟨v0, v1, v2, rfl, r0, r1, r2⟩ := hm
 have hm : stateEK.K W s (s.encv v0 v1 v2) := ⟨_, _, _, rfl, r0, r1, r2⟩
 obtain ⟨A_a, q_a, rfl, hq_a, hn_a⟩ := r0.sl; unfold maxLen at hn_a
 obtain ⟨A_b, q_b, rfl, hq_b, hn_b⟩ := r1.sl; unfold maxLen at hn_b
 obtain ⟨A_c, q_c, rfl, hq_c, hn_c⟩ := r2.sl; unfold maxLen at hn_c
 refine ws fun K1 hK1 => ?_
 refine wl_box (cs := [_, _, _, _, _, _, _, _, _, _, _, _, _]) hF hS rfl (hF.ev rfl) rfl fun g1 w1 a hS _ hF => ?_
 refine wl_alloc hF hS rfl zr29 fun g2 w2 a hS _ hF => ?_
 refine ge hK1 hF rfl fun a hF => ?_
 refine ws fun K2 hK2 => ?_
 refine gb 1 1 hF hS rfl rfl rfl fun a hF => ?_
 refine wl_mk hF hS rfl rfl rfl (r_call1 en44 (hF.ev rfl)) (l8Copy_c (hS.k hm) (by omega)) ?_; rintro vs8 w3 a hS_ hF; replace hS := hS_; clear hS_; dsimp only [List.cons_append, List.nil_append] at hS
 refine wl_alloc hF hS rfl zr29 fun g3 w4 a hS _ hF => ?_
 refine ww 0 hF hS rfl rfl rfl rfl rfl rfl fun w5 hS => ?_
 refine wl_nil (hK2 _ _ ?_)
 refine wp_seq_k fun K3 hK3 => ?_
 refine ws fun K4 hK4 => ?_
 refine gb 2 3 hF hS rfl rfl rfl fun a hF => ?_
 refine ckr hF hS rfl (specIsRunning_c (hS.k hm) hw hz hp0) fun w6 a hS hF => ?_
 refine ga 2 hF rfl fun a hF => ?_
 apply wo 8 13 21 hF hS
 ·
  intro hg13 a hF
  obtain ⟨hso_, hp1_⟩ := running_of hg13
  refine gb 3 3 hF hS rfl rfl rfl fun a hF => ?_
  refine wl_take hF rfl rfl rfl rfl ?_
  obtain ⟨g17, o17, m17, q17, cs17, hv17, hm17, hl17, hk17, hz17, hc17⟩ := Rd.at (r2) (a := a) (X := .tmp 16) (hF.ev rfl) (by omega) (by omega)
  have hkk17 := hk17; obtain ⟨v17_0, v17_1, v17_2, v17_3, v17_4, rfl, r17_0, r17_1, r17_2, r17_3, r17_4⟩ := hk17
  refine wl hF rfl rfl rfl (r_index sl27 ((hF.ev rfl).trans hv17) (hF.ev rfl) (by omega) (by first | omega | (simp at hm17; omega))) fun a hF => ?_
  refine ga 1 hF rfl fun a hF => ?_
  refine wl_take hF rfl rfl rfl rfl ?_
  refine wl hF rfl rfl rfl (r_load1 sc3 (hF.ev rfl) (cellB hS.old (hc17 0 _ rfl))) fun a hF => ?_
  exact je 8 hF hS rfl rfl rfl rfl
 intro a w7 hF hS
 refine wl_nil (hK4 _ _ ?_)
 refine cx 21 hF rfl (fun c21 hF => ?_) fun c21 hF => ?_
 ·
  refine ws fun K5 hK5 => ?_
  refine gb 1 0 hF hS rfl rfl rfl fun a hF => ?_
  refine ww 2 hF hS rfl rfl rfl rfl rfl rfl fun w8 hS => ?_
  refine ge hK5 hF rfl fun a hF => ?_
  refine wp_ret ?_
  refine xt ?_
  have e : stepOf isC reclaimS s p = (s, false) := if_neg (fun h => by
    rcases c21 with c | c
    · rw [h.1] at c; cases c
    · exact c (of_decide_eq_true h.2))
  refine ret2c rfl ag29 hF hS (i := 2) rfl sz29 rfl rfl ⟨vs8, ?_, ?_⟩
  · rw [e] <;> rfl
  · rw [e]; exact hS.pick [1] (by decide) rfl
 obtain ⟨hso, hp1⟩ := running_of c21.1
 obtain ⟨p, rfl⟩ : ∃ k : Nat, p = (k : Int) := ⟨p.toNat, by omega⟩
 have hp : p < s.threads.length := by omega
 have hxt := at0_nat hp
 replace hS := hS.pull (p := 1) rfl; dsimp only [List.eraseIdx] at hS
 replace hS : Sep W (Own intEK (sv (vs8.getD 0 (none, 0, 0))) s.cells :: Own intEK (sv (vs8.getD 1 (none, 0, 0))) s.generations :: Own threadEK (sv (vs8.getD 2 (none, 0, 0))) s.threads :: _) _ := hS.part_open
 dsimp only [stateEK] at hS
 generalize vs8.getD 0 (none, 0, 0) = z0 at hS
 generalize vs8.getD 1 (none, 0, 0) = z1 at hS
 generalize vs8.getD 2 (none, 0, 0) = z2 at hS
 obtain ⟨gt, ot, mt, ct, rfl⟩ := hS.elt_form (q := 2) rfl hxt
 have hmt : mt = s.threads.length := hS.own_len (q := 2) (s := (some ⟨gt, ot, none⟩, mt, ct)) rfl
 replace hS := hS.set_form (q := 2) rfl hxt; dsimp only [List.set] at hS
 refine wp_skip ?_
 refine hK3 _ _ ?_
 refine ws fun K6 hK6 => ?_
 refine gb 4 3 hF hS rfl rfl rfl fun a hF => ?_
 refine wv 3 hF hS rfl rfl rfl rfl rfl rfl fun w9 hS => ?_
 refine wl_nil (hK6 _ _ ?_)
 refine ws fun K7 hK7 => ?_
 refine ga 1 hF rfl fun a hF => ?_
 replace hS := Sep.headp (A := [_, _, _, _, _, _]) (B := [_, _, _, _, _, _]) hS [3, 0, 1, 2, 4, 5] (by decide) rfl rfl
 refine ck hF rfl (l16Scan_c (s := stepped s) hp (Fit.of hso hw hp).stepped hS) ?_; rintro v w10 a ⟨rfl, hS⟩ hF
 refine wl_nil (hK7 _ _ ?_)
 refine ws fun K8 hK8 => ?_
 refine gb 1 0 hF hS rfl rfl rfl fun a hF => ?_
 refine ww 4 hF hS rfl rfl rfl rfl rfl rfl fun w11 hS => ?_
 refine ge hK8 hF rfl fun a hF => ?_
 refine wp_ret ?_
 refine xt ?_
 have e : stepOf isC reclaimS s (p : Int) = (stepBy reclaimS (stepped s) p, true) := if_pos ⟨c21.1, decide_eq_true c21.2⟩
 refine ret2c rfl ag29 hF hS (i := 4) rfl sz29 rfl rfl ⟨[z0, z1, (some ⟨gt, ot, none⟩, mt, ct)], ?_, ?_⟩
 · rw [e] <;> rfl
 · rw [e]; exact hS.part_of [1, 2, 3] (by decide) rfl
end Go.Proofs.YtgofolgogfmhgaaGreat.Wk
namespace Go.Proofs.YtgofolgogfmhgaaGreat.Wk
open Go Go.RowKit Sl
set_option linter.unusedVariables false
set_option linter.unusedSimpArgs false
set_option maxRecDepth 20000
end Go.Proofs.YtgofolgogfmhgaaGreat.Wk
namespace Go.Proofs.YtgofolgogfmhgaaGreat.Wk
open Go Go.RowKit Sl
set_option linter.unusedVariables false
set_option linter.unusedSimpArgs false
set_option maxRecDepth 20000
def keyF (t : Sl.Thread) : Int := if t.op.kind = 5 then -1 else t.op.key
def scanA (s : Sl.State) (t : Sl.Thread) : Int := loadC s.cells (announceCell s.config t.at_)
def scanF (s : Sl.State) (t : Sl.Thread) : List Int := foundN t (scanA s t)
def afterT (c : Config) (t : Sl.Thread) : Sl.Thread := if limboLimit c ≤ (t.limbo.length : Int) ∨ t.op.kind = 5 ∧ (0 : Int) < t.limbo.length then { clearT t with pc := 70 } else endT t 0 0
def mergeT (s : Sl.State) (t : Sl.Thread) : Sl.Thread := { t with found := scanF s t, at_ := IntKind.i64.wrap (t.at_ + 1), buffer := splitK s.config.policy (keyF t) t.buffer (scanF s t), work := t.work ++ splitD s.config.policy (keyF t) t.buffer (scanF s t), pc := 60 }
def scanT (s : Sl.State) (t : Sl.Thread) : Sl.Thread :=
  if IntKind.i64.wrap (t.at_ + 1) < s.config.threads then { t with found := scanF s t, at_ := IntKind.i64.wrap (t.at_ + 1) }
  else if ((t.work.length + (splitD s.config.policy (keyF t) t.buffer (scanF s t)).length : Nat) : Int) = 0 then afterT s.config (mergeT s t) else mergeT s t
def flushS (s : Sl.State) (t : Sl.Thread) (p : Int) : Sl.State × Sl.Thread :=
  if t.pc = 50 then (s, scanT s t)
  else if t.pc = 60 then (faultS s (at0 t.work 0).handle, { t with seen := loadC s.cells (cellOf s (at0 t.work 0).handle 2), pc := 61 })
  else if t.pc = 61 then
    if hitB s.cells (cellOf s (at0 t.work 0).handle 2) t.seen = true then (swapS (faultS s (at0 t.work 0).handle) (cellOf s (at0 t.work 0).handle 2) t.seen (marked t.seen), { t with pc := 10 })
    else ({ swapS (faultS s (at0 t.work 0).handle) (cellOf s (at0 t.work 0).handle 2) t.seen (marked t.seen) with retries := IntKind.i64.wrap (s.retries + 1) }, { t with pc := 60 })
  else if t.pc = 62 then (putS s (hazardCell s.config p 0) 0, { t with pc := 63 })
  else if t.pc = 63 then (putS s (hazardCell s.config p 1) 0, afterT s.config t)
  else (s, t)
def isF (n : Int) : Bool := decide (n = 50) || decide (60 ≤ n ∧ n ≤ 63)
theorem afterT_size {c : Config} {t : Sl.Thread} : (afterT c t).size ≤ t.size := by
 unfold afterT
 split
 · unfold clearT Sl.Thread.size; simp only [List.length_nil]; omega
 · exact endT_size
theorem mergeT_size {s : Sl.State} {t : Sl.Thread} : (mergeT s t).size ≤ t.size + 1 := by
 have h1 := foundN_len (t := t) (n := scanA s t)
 have h2 := splitE_len s.config.policy (keyF t) t.buffer (scanF s t)
 unfold mergeT Sl.Thread.size scanF at *; dsimp only; simp only [List.length_append]; omega
theorem scanT_size {s : Sl.State} {t : Sl.Thread} : (scanT s t).size ≤ t.size + 1 := by
 have h1 := foundN_len (t := t) (n := scanA s t)
 have h2 := mergeT_size (s := s) (t := t)
 unfold scanT
 split
 · unfold Sl.Thread.size scanF; dsimp only; omega
 split
 · exact Nat.le_trans afterT_size h2
 · exact h2
theorem flushS_size (s : Sl.State) (t : Sl.Thread) (p : Int) : ((flushS s t p).1.cells.length = s.cells.length ∧ (flushS s t p).1.generations.length = s.generations.length) ∧ (flushS s t p).2.size ≤ t.size + 1 := by
 unfold flushS
 repeat' split
 all_goals (refine ⟨⟨?_, rfl⟩, ?_⟩)
 all_goals first | rfl | exact Nat.le_succ _ | exact scanT_size | exact Nat.le_trans afterT_size (Nat.le_succ _) | exact putC_len | (unfold swapS faultS; dsimp only; split <;> first | rfl | exact putC_len)
theorem Fit.work {s : Sl.State} {t : Sl.Thread} (hf : Fit s t) (h : t.pc = 60 ∨ t.pc = 61) : 0 < t.work.length := by
 have h2 := hf.th
 unfold threadOk at h2; simp only [Bool.and_eq_true, decide_eq_true_eq] at h2
 have h3 := h2.1.1.1.2
 unfold pcOk at h3
 have := h3.2.1
 omega
theorem Fit.hand {s : Sl.State} {t : Sl.Thread} (hf : Fit s t) (h : 0 < t.work.length) : int64 (at0 t.work 0).handle := (hf.wt.2.2.2.2.2.2.2.2.2.2.2.2.2.2.1 _ (at0_mem (by omega) (by omega))).1
theorem l15After_c {W w : World} {l : List Res} {g gt ot mt ct p : Nat} {v0 v1 : Value} {s : Sl.State} {ts : List Sl.Thread} {t : Sl.Thread} (hp : p < ts.length) (hS : Sep W (Box g (s.encv v0 v1 (.slice (some ⟨gt, ot, none⟩) mt ct)) :: Own threadEK (.slice (some ⟨gt, ot, none⟩) mt ct) (ts.set p (t)) :: l) w) : Calls Tryz.prog 171 #[.pointer (some ⟨g, 0, none⟩), vi (p : Int)] w (Ret fun v w' => v = .tuple #[] ∧ Sep W (Box g (s.encv v0 v1 (.slice (some ⟨gt, ot, none⟩) mt ct)) :: Own threadEK (.slice (some ⟨gt, ot, none⟩) mt ct) (ts.set p (afterT s.config t)) :: l) w') := by
 refine calls_fr Tryz.func171 rfl Tryz.ntmps171 rfl ?_
 intro a hF
 have hmt := hS.own_len (s := (some ⟨gt, ot, none⟩, mt, ct)) (q := 1) rfl
 simp only [List.length_set] at hmt
 refine ws fun K1 hK1 => ?_
 refine gb 5 0 hF hS rfl rfl rfl fun a hF => ?_
 refine wl hF rfl rfl rfl (r_index sl27 (hF.ev rfl) (hF.ev rfl) (by omega) (by first | omega | (dsimp only; omega))) fun a hF => ?_
 refine ge hK1 hF rfl fun a hF => ?_
 refine ws fun K2 hK2 => ?_
 refine ga 3 hF rfl fun a hF => ?_
 obtain ⟨ce15, ke15, ze15, he15⟩ := hS.eltK (q := 1) hp rfl; have kk15 := ke15; obtain ⟨u15_0, u15_1, u15_2, u15_3, u15_4, rfl, f15_0, f15_1, f15_2, f15_3, f15_4⟩ := ke15
 obtain ⟨Ae15, qe15, rfl, _, hme15⟩ := f15_4.sl; unfold maxLen at hme15
 refine wl hF rfl rfl rfl (r_load1 sc26 (hF.ev rfl) (he15 18 _ rfl)) fun a hF => ?_
 refine ge hK2 hF rfl fun a hF => ?_
 refine wp_seq_k fun K3 hK3 => ?_
 refine ws fun K4 hK4 => ?_
 refine ga 4 hF rfl fun a hF => ?_
 refine wl hF rfl rfl rfl (r_loadn ag25 (hF.ev rfl) (hS.boxn (vs := [_, _, _, _, _, _]) (i := 0) (m := 6) rfl rfl) sz25) fun a hF => ?_
 refine ckr hF hS rfl (specLimboLimit_c _) fun w1 a hS hF => ?_
 refine ga 2 hF rfl fun a hF => ?_
 apply wo 11 24 35 hF hS
 ·
  intro hg24 a hF
  refine ga 4 hF rfl fun a hF => ?_
  refine wl_take hF rfl rfl rfl rfl ?_
  refine wl hF rfl rfl rfl (r_load1 sc3 (hF.ev rfl) (hS.elt1 (q := 1) (j := 1) hp rfl (fun _ => rfl))) fun a hF => ?_
  refine ga 2 hF rfl fun a hF => ?_
  apply wa 3 31 34 hF hS
  ·
   intro hg31 a hF
   exact je 3 hF hS rfl rfl rfl rfl
  intro a w2 hF hS
  exact je 9 hF hS rfl rfl rfl rfl
 intro a w3 hF hS
 refine wl_nil (hK4 _ _ ?_)
 refine cx 35 hF rfl (fun c35 hF => ?_) fun c35 hF => ?_
 ·
  refine ws fun K5 hK5 => ?_
  refine ga 1 hF rfl fun a hF => ?_
  replace hS := Sep.headp (A := [_, _]) (B := [_, _]) hS [1, 0] (by decide) rfl rfl
  refine ck hF rfl (l10Clear_c hp hS) ?_; rintro v w4 a ⟨rfl, hS⟩ hF
  refine wl_nil (hK5 _ _ ?_)
  refine ws fun K6 hK6 => ?_
  refine ga 3 hF rfl fun a hF => ?_
  refine wl_estore (q := 0) (j := 0) (⟨_, ⟨_, _, _⟩, ⟨_, _⟩, _, _, _, _, _, _, _, _, _, _, _, _, _⟩ : Sl.Thread) hF hS hp rfl sz3 (hF.ev rfl) rfl ec rfl (fun _ => rfl) (fun _ => by dsimp only [threadEK, Thread.encv, List.set] <;> rfl) (by intro _; rfl) fun w5 hS => ?_; dsimp only [List.set] at hS
  refine wl_nil (hK6 _ _ ?_)
  refine wp_ret ?_
  refine xt ?_
  refine ret0 rfl hF ⟨rfl, ?_⟩
  unfold afterT
  rw [if_pos c35]
  exact (Sep.headp (A := [_, _]) (B := [_, _]) hS [1, 0] (by decide) rfl rfl)
 refine wp_skip ?_
 refine hK3 _ _ ?_
 refine wp_region_lit ?_
 refine ga 2 hF rfl fun a hF => ?_
 refine ck hF rfl (l10Finish_c (s := s) hp hS) ?_; rintro v w6 a ⟨rfl, hS⟩ hF
 refine wl_nil ?_
 refine xt ?_
 refine ret0n rfl hF ⟨rfl, ?_⟩
 unfold afterT
 rw [if_neg (by omega)]
 exact hS
end Go.Proofs.YtgofolgogfmhgaaGreat.Wk
namespace Go.Proofs.YtgofolgogfmhgaaGreat.Wk
open Go Go.RowKit Sl
set_option linter.unusedVariables false
set_option linter.unusedSimpArgs false
set_option maxRecDepth 20000
theorem l15Scan_c {W w : World} {l : List Res} {g gt ot mt ct p : Nat} {z0 z1 : Slv} {s : Sl.State} {t : Sl.Thread} (hp : p < s.threads.length) (hf : Fit s t) (hS : Sep W (Box g ((s).encv (sv z0) (sv z1) (.slice (some ⟨gt, ot, none⟩) mt ct)) :: Own intEK (sv z0) (s).cells :: Own intEK (sv z1) (s).generations :: Own threadEK (.slice (some ⟨gt, ot, none⟩) mt ct) (s.threads.set p t) :: l) w) : Calls Tryz.prog 169 #[.pointer (some ⟨g, 0, none⟩), vi (p : Int)] w (Ret fun v w' => v = .tuple #[] ∧ Sep W (Box g ((s).encv (sv z0) (sv z1) (.slice (some ⟨gt, ot, none⟩) mt ct)) :: Own intEK (sv z0) (s).cells :: Own intEK (sv z1) (s).generations :: Own threadEK (.slice (some ⟨gt, ot, none⟩) mt ct) (s.threads.set p (scanT s t)) :: l) w') := by
 refine calls_fr Tryz.func169 rfl Tryz.ntmps169 rfl ?_
 intro a hF
 have hl0 := hS.own_len (q := 1) rfl
 have hl1 := hS.own_len (q := 2) rfl
 have hmt : mt = s.threads.length := by have := hS.own_len (q := 3) (s := (some ⟨gt, ot, none⟩, mt, ct)) rfl; simpa using this
 have hz1 := hf.sizes; unfold sizesOk at hz1
 refine ws fun K1 hK1 => ?_
 refine gb 5 0 hF hS rfl rfl rfl fun a hF => ?_
 refine wl hF rfl rfl rfl (r_index sl27 (hF.ev rfl) (hF.ev rfl) (by omega) (by first | omega | (dsimp only; omega))) fun a hF => ?_
 refine ge hK1 hF rfl fun a hF => ?_
 refine wp_seq_k fun K2 hK2 => ?_
 refine wp_region_calm (by kernel_rfl) (by kernel_rfl) ?_
 refine qa 4 hF tk rfl fun a hF => ?_
 refine wq hF rfl rfl rfl (fun w_ hB_ => r_loadn ag25 (hF.ev rfl) ((hS.ext hB_).boxn (vs := [_, _, _, _, _, _]) (i := 0) (m := 6) rfl rfl) sz25) fun a hF => ?_
 refine qa 3 hF tk rfl fun a hF => ?_
 refine wq hF rfl rfl rfl (fun w_ hB_ => r_load1 sc3 (hF.ev rfl) ((hS.ext hB_).elt1 (q := 3) (j := 13) hp rfl (fun _ => rfl))) fun a hF => ?_
 refine qk hF rfl (fun w_ hB_ => specAnnounceCell_c _ _) fun a hF => ?_
 refine qk hF rfl (fun w_ hB_ => l9LoadR_c (fun j u hu => (hS.ext hB_).box7 (i := 0) rfl j u hu) ((hS.ext hB_).own_rd (i := 1) rfl)) fun a hF => ?_
 refine qa 1 hF tk rfl fun a hF => ?_
 refine wpQuiet_nil ?_; intro w1 hB_; have hS := hS.ext hB_
 refine hK2 _ _ ?_
 refine wp_cut (fun a w => Sep W (Box g (s.encv (sv z0) (sv z1) (.slice (some ⟨gt, ot, none⟩) mt ct)) :: Own intEK (sv z0) s.cells :: Own intEK (sv z1) s.generations :: Own threadEK (.slice (some ⟨gt, ot, none⟩) mt ct) (s.threads.set p ({ t with found := (scanF s t) })) :: l) w ∧ Fr 112 [(0, .pointer (some ⟨g, 0, none⟩)), (1, vi (p : Int)), (4, .pointer (some ⟨gt, ot + p * 19, none⟩))] a) ?_ ?_
 ·
  refine rg hF rfl fun a hF => ?_
  refine cx 27 hF rfl (fun c27 hF => ?_) fun c27 hF => ?_
  ·
   obtain ⟨A0_, A1_, A2_, A3_, A4_, k0_, k1_, k2_, k3_, k4_, ⟨n0_, n1_, n2_, n3_, n4_⟩, ⟨q0_, q1_, q2_, q3_, q4_⟩, hS_⟩ := Sep.thr_lend (t := t) (Sep.headp (A := [_, _, _, _]) (B := [_, _, _, _]) hS [3, 0, 1, 2] (by decide) rfl rfl) hp; replace hS := hS_; clear hS_; unfold maxLen at n0_ n1_ n2_ n3_ n4_; try dsimp only at n0_ n1_ n2_ n3_ n4_ q0_ q1_ q2_ q3_ q4_
   dsimp only [Thread.encv] at hS
   refine wp_region_lit ?_
   refine ga 4 hF rfl fun a hF => ?_
   refine wl hF rfl rfl rfl (r_load1 sc26 (hF.ev rfl) (hS.but1 (q := 5) (j := 14) rfl rfl)) fun a hF => ?_
   refine ga 1 hF rfl fun a hF => ?_
   refine wl_bslice intEK [vi (scanA s t)] [scanA s t] rfl hF hS rfl mk26 rfl ⟨rfl, (hF.ev rfl), trivial⟩ rfl rfl rfl rfl fun gl_34 w2 a hS hF => ?_
   refine wl_append (q := 1) hF hS rfl rfl (hS.own_rd (i := 0) rfl) mk26 rfl (hF.ev rfl) (hF.ev rfl) (by first | omega | (simp; omega)) (by unfold maxLen; first | omega | (simp; omega)) ?_; intro A_35 c_35 w3 a hS_ hF; replace hS := hS_; clear hS_; dsimp only [List.set, List.length_cons, List.length_nil] at hS hF
   refine ga 2 hF rfl fun a hF => ?_
   refine wl_bstore (q := 6) (j := 14) hF hS rfl sz26 (hF.ev rfl) rfl (hF.ev rfl) rfl rfl fun w4 hS => ?_; dsimp only [List.set] at hS
   refine wl_nil ?_
   refine xt ?_
   have e0 : (scanF s t) = t.found ++ [scanA s t] := if_neg c27
   replace hS := Sep.thr_back (t' := { t with found := t.found ++ [scanA s t] }) (y0 := (_, _, _)) (y1 := (_, _, _)) (y2 := (_, _, _)) (y3 := (_, _, _)) (y4 := (_, _, _)) (Sep.headp (A := [_, _, _, _, _, _, _, _, _, _]) (B := [_, _, _, _, _, _, _, _, _, _]) hS [1, 2, 3, 4, 5, 6, 0, 7, 8, 9] (by decide) rfl rfl) rfl
   rw [e0]
   exact ⟨(Sep.headp (A := [_, _, _, _, _]) (B := [_, _, _, _]) hS [2, 3, 4, 0] (by decide) rfl rfl), (((hF.nil.keepE hF (t := 4) rfl rfl).keepE hF (t := 1) rfl rfl).keepE hF (t := 0) rfl rfl)⟩
  refine wp_skip ?_
  refine xt ?_
  have e0 : (scanF s t) = t.found := if_pos c27
  rw [e0]
  exact ⟨hS, (((hF.nil.keepE hF (t := 4) rfl rfl).keepE hF (t := 1) rfl rfl).keepE hF (t := 0) rfl rfl)⟩
 rintro a w5 ⟨hS, hF⟩
 refine ws fun K4 hK4 => ?_
 refine ga 4 hF rfl fun a hF => ?_
 refine wl hF rfl rfl rfl (r_load1 sc3 (hF.ev rfl) (hS.elt1 (q := 3) (j := 13) hp rfl (fun _ => rfl))) fun a hF => ?_
 refine ga 3 hF rfl fun a hF => ?_
 refine wl_estore (q := 3) (j := 13) (⟨_, ⟨_, _, _⟩, ⟨_, _⟩, _, _, _, _, _, _, _, _, _, _, _, _, _⟩ : Sl.Thread) hF hS hp rfl sz3 (hF.ev rfl) rfl (hF.ev rfl) rfl (fun _ => rfl) (fun _ => by dsimp only [threadEK, Thread.encv, List.set] <;> rfl) (by intro _; rfl) fun w6 hS => ?_; dsimp only [List.set] at hS
 refine wl_nil (hK4 _ _ ?_)
 refine wp_seq_k fun K5 hK5 => ?_
 refine wp_seq_k fun K6 hK6 => ?_
 refine wp_region_calm (by kernel_rfl) (by kernel_rfl) ?_
 refine qa 3 hF tk rfl fun a hF => ?_
 refine wq hF rfl rfl rfl (fun w_ hB_ => r_load1 sc3 (hF.ev rfl) ((hS.ext hB_).elt1 (q := 3) (j := 13) hp rfl (fun _ => rfl))) fun a hF => ?_
 refine qb 6 0 hF tk hS rfl rfl rfl fun a hF => ?_
 refine wpQuiet_nil ?_; intro w7 hB_; have hS := hS.ext hB_
 refine hK6 _ _ ?_
 refine cx 55 hF rfl (fun c55 hF => ?_) fun c55 hF => ?_
 ·
  refine wp_ret ?_
  refine xt ?_
  refine ret0 rfl hF ⟨rfl, ?_⟩
  unfold scanT
  rw [if_pos c55]
  exact hS
 refine wp_skip ?_
 refine hK5 _ _ ?_
 refine ws fun K7 hK7 => ?_
 refine ga 4 hF rfl fun a hF => ?_
 refine wl hF rfl rfl rfl (r_load1 sc3 (hF.ev rfl) (hS.elt1 (q := 3) (j := 2) hp rfl (fun _ => rfl))) fun a hF => ?_
 refine ge hK7 hF rfl fun a hF => ?_
 refine wp_cut (fun a w => Sep W (Box g (s.encv (sv z0) (sv z1) (.slice (some ⟨gt, ot, none⟩) mt ct)) :: Own intEK (sv z0) s.cells :: Own intEK (sv z1) s.generations :: Own threadEK (.slice (some ⟨gt, ot, none⟩) mt ct) (s.threads.set p ({ t with found := (scanF s t), at_ := IntKind.i64.wrap (t.at_ + 1) })) :: l) w ∧ Fr 112 [(0, .pointer (some ⟨g, 0, none⟩)), (1, vi (p : Int)), (4, .pointer (some ⟨gt, ot + p * 19, none⟩)), (6, vi (keyF t))] a) ?_ ?_
 ·
  refine ws fun K8 hK8 => ?_
  refine ga 4 hF rfl fun a hF => ?_
  refine wl hF rfl rfl rfl (r_load1 sc3 (hF.ev rfl) (hS.elt1 (q := 3) (j := 1) hp rfl (fun _ => rfl))) fun a hF => ?_
  refine ge hK8 hF rfl fun a hF => ?_
  refine cx 66 hF rfl (fun c66 hF => ?_) fun c66 hF => ?_
  ·
   refine rl hF rfl fun a hF => ?_
   refine xt ?_
   exact ⟨hS, ((((hF.nil.keepE hF (t := 6) rfl (congrArg vi (if_pos c66).symm)).keepE hF (t := 4) rfl rfl).keepE hF (t := 1) rfl rfl).keepE hF (t := 0) rfl rfl)⟩
  refine wp_skip ?_
  refine xt ?_
  exact ⟨hS, ((((hF.nil.keepE hF (t := 6) rfl (congrArg vi (if_neg c66).symm)).keepE hF (t := 4) rfl rfl).keepE hF (t := 1) rfl rfl).keepE hF (t := 0) rfl rfl)⟩
 rintro a w8 ⟨hS, hF⟩
 obtain ⟨A0_, A1_, A2_, A3_, A4_, k0_, k1_, k2_, k3_, k4_, ⟨n0_, n1_, n2_, n3_, n4_⟩, ⟨q0_, q1_, q2_, q3_, q4_⟩, hS_⟩ := Sep.thr_lend (t := { t with found := (scanF s t), at_ := IntKind.i64.wrap (t.at_ + 1) }) (Sep.headp (A := [_, _, _, _]) (B := [_, _, _, _]) hS [3, 0, 1, 2] (by decide) rfl rfl) hp; replace hS := hS_; clear hS_; unfold maxLen at n0_ n1_ n2_ n3_ n4_; try dsimp only at n0_ n1_ n2_ n3_ n4_ q0_ q1_ q2_ q3_ q4_
 dsimp only [Thread.encv] at hS
 have hsp := splitE_len s.config.policy (keyF t) t.buffer (scanF s t)
 refine wp_seq_k fun K9 hK9 => ?_
 refine wp_region_todo (is := [0, 1, 2, 3, 4, 5, 6, 7, 8, 9, 10, 11, 12, 13, 14, 15, 16, 17, 18, 19]) [] [] (by kernel_rfl) hF hS ⟨trivial, by decide, by decide, by decide⟩ (by kernel_rfl) ?_; intro hl_ wd hSd
 refine todo_pure hl_ (by kernel_rfl) rfl (gw0 rfl) rfl rfl rfl (fun a w_ hF => r_move (hF.ev rfl)) ?_
 refine todo_pure hl_ (by kernel_rfl) rfl (gw0 rfl) rfl rfl rfl (fun a w_ hF => r_nilCheck (hF.ev rfl)) ?_
 refine todo_pure hl_ (by kernel_rfl) rfl (gw0 rfl) rfl rfl rfl (fun a w_ hF => r_field fo29_0 (hF.ev rfl)) ?_
 refine todo_pure hl_ (by kernel_rfl) rfl (gw0 rfl) rfl rfl rfl (fun a w_ hF => r_field fo25_4 (hF.ev rfl)) ?_
 refine todo_load [14, 15, 16, 17, 18, 19] hl_ (by kernel_rfl) rfl (gw0 rfl) rfl rfl rfl (fun a w_ hF hB_ => r_load1 sc3 (hF.ev rfl) ((hSd.ext hB_).box (i := 6) rfl rfl)) ?_
 refine todo_pure hl_ (by kernel_rfl) rfl (gw0 rfl) rfl rfl rfl (fun a w_ hF => r_move (hF.ev rfl)) ?_
 refine todo_pure hl_ (by kernel_rfl) rfl (gw0 rfl) rfl rfl rfl (fun a w_ hF => r_move (hF.ev rfl)) ?_
 refine todo_pure hl_ (by kernel_rfl) rfl (gw0 rfl) rfl rfl rfl (fun a w_ hF => r_nilCheck (hF.ev rfl)) ?_
 refine todo_pure hl_ (by kernel_rfl) rfl (gw0 rfl) rfl rfl rfl (fun a w_ hF => r_field fo42_13 (hF.ev rfl)) ?_
 refine todo_load [14, 15, 16, 17, 18, 19] hl_ (by kernel_rfl) rfl (gw0 rfl) rfl rfl rfl (fun a w_ hF hB_ => r_load1 sc40 (hF.ev rfl) ((hSd.ext hB_).but1 (q := 5) (j := 16) rfl rfl)) ?_
 refine todo_pure hl_ (by kernel_rfl) rfl (gw0 rfl) rfl rfl rfl (fun a w_ hF => r_move (hF.ev rfl)) ?_
 refine todo_pure hl_ (by kernel_rfl) rfl (gw0 rfl) rfl rfl rfl (fun a w_ hF => r_nilCheck (hF.ev rfl)) ?_
 refine todo_pure hl_ (by kernel_rfl) rfl (gw0 rfl) rfl rfl rfl (fun a w_ hF => r_field fo42_11 (hF.ev rfl)) ?_
 refine todo_load [14, 15, 16, 17, 18, 19] hl_ (by kernel_rfl) rfl (gw0 rfl) rfl rfl rfl (fun a w_ hF hB_ => r_load1 sc26 (hF.ev rfl) ((hSd.ext hB_).but1 (q := 5) (j := 14) rfl rfl)) ?_
 refine todo_mk hl_ rfl (by kernel_rfl) rfl rfl rfl rfl rfl (fun a w_ hF => r_call4 en190 (hF.ev rfl) (hF.ev rfl) (hF.ev rfl) (hF.ev rfl)) (fun w_ hS => specSplitE_c (hS.own_rd (i := 2) rfl) (hS.own_rd (i := 0) rfl) (by omega)) ?_; rintro ⟨⟨Ap82, np82, cp82⟩, Aq82, nq82, cq82⟩
 refine todo_pure hl_ (by kernel_rfl) rfl (gw0 rfl) rfl rfl rfl (fun a w_ hF => r_move (hF.ev rfl)) ?_
 refine todo_pure hl_ (by kernel_rfl) rfl (gw0 rfl) rfl rfl rfl (fun a w_ hF => r_extract (hF.ev rfl) rfl) ?_
 refine todo_pure hl_ (by kernel_rfl) rfl (gw0 rfl) rfl rfl rfl (fun a w_ hF => r_extract (hF.ev rfl) rfl) ?_
 refine todo_pure hl_ (by kernel_rfl) rfl (gw0 rfl) rfl rfl rfl (fun a w_ hF => r_assign (hF.ev rfl)) ?_
 refine todo_pure hl_ (by kernel_rfl) rfl (gw0 rfl) rfl rfl rfl (fun a w_ hF => r_assign (hF.ev rfl)) ?_
 refine todo_fin hl_ rfl (by kernel_rfl) (tl := []) rfl ?_; intro a w9 hF hA_
 have hS := hA_.sep; clear hA_
 clear hl_; try clear hSd
 try dsimp only [List.cons_append, List.nil_append, List.set] at hS
 try clear wd
 refine wl_nil ⟨rfl, ?_⟩
 refine hK9 _ _ ?_
 refine ws fun K10 hK10 => ?_
 refine wl hF rfl rfl rfl (r_move (hF.ev rfl)) fun a hF => ?_
 have hnp := hS.own_len (q := 0) (s := (_, _, _)) rfl
 have hnq := hS.own_len (q := 1) (s := (_, _, _)) rfl
 refine ga 3 hF rfl fun a hF => ?_
 refine wl_bstore (q := 7) (j := 16) hF hS rfl sz40 (hF.ev rfl) rfl (hF.ev rfl) rfl rfl fun w10 hS => ?_; dsimp only [List.set] at hS
 refine wl_nil (hK10 _ _ ?_)
 refine ws fun K11 hK11 => ?_
 refine ga 1 hF rfl fun a hF => ?_
 refine wl_bslice entryEK [] [] rfl hF hS rfl mk40 rfl trivial rfl rfl rfl rfl fun gl_90 w11 a hS hF => ?_
 refine ga 3 hF rfl fun a hF => ?_
 refine wl hF rfl rfl rfl (r_load1 sc40 (hF.ev rfl) (hS.but1 (q := 8) (j := 17) rfl rfl)) fun a hF => ?_
 refine wl_append0 hF hS rfl (hS.own_rd (i := 6) rfl) mk40 rfl (by first | omega | (simp; omega)) (by unfold maxLen; first | omega | (simp; omega)) (hF.ev rfl) (hF.ev rfl) fun s95 w12 a hS hF => ?_
 refine ga 1 hF rfl fun a hF => ?_
 refine wl_append (q := 0) hF hS rfl rfl (hS.own_rd (i := 3) rfl) mk40 rfl (hF.ev rfl) (hF.ev rfl) (by first | omega | (simp; omega)) (by unfold maxLen; first | omega | (simp; omega)) ?_; intro A_97 c_97 w13 a hS_ hF; replace hS := hS_; clear hS_; dsimp only [List.set, List.length_cons, List.length_nil] at hS hF
 refine ga 2 hF rfl fun a hF => ?_
 refine wl_bstore (q := 9) (j := 17) hF hS rfl sz40 (hF.ev rfl) rfl (hF.ev rfl) rfl rfl fun w14 hS => ?_; dsimp only [List.set] at hS
 refine wl_nil (hK11 _ _ ?_)
 refine ws fun K12 hK12 => ?_
 refine ga 3 hF rfl fun a hF => ?_
 refine wl_bstore (q := 9) (j := 0) hF hS rfl sz3 (hF.ev rfl) rfl ec rfl rfl fun w15 hS => ?_; dsimp only [List.set] at hS
 refine wl_nil (hK12 _ _ ?_)
 refine ws fun K13 hK13 => ?_
 refine ga 3 hF rfl fun a hF => ?_
 refine wl hF rfl rfl rfl (r_load1 sc40 (hF.ev rfl) (hS.but1 (q := 9) (j := 17) rfl rfl)) fun a hF => ?_
 refine ge hK13 hF rfl fun a hF => ?_
 refine cx 108 hF rfl (fun c108 hF => ?_) fun c108 hF => ?_
 ·
  replace hS := Sep.thr_back (t' := mergeT s t) (y0 := (_, _, _)) (y1 := (_, _, _)) (y2 := (_, _, _)) (y3 := (_, _, _)) (y4 := (_, _, _)) (Sep.headp (A := [_, _, _, _, _, _, _, _, _, _, _, _, _]) (B := [_, _, _, _, _, _, _, _, _, _, _, _, _]) hS [4, 5, 2, 0, 8, 9, 1, 3, 6, 7, 10, 11, 12] (by decide) rfl rfl) rfl
  refine wp_region_lit ?_
  refine ga 2 hF rfl fun a hF => ?_
  replace hS := Sep.headp (A := [_, _, _, _, _, _, _, _]) (B := [_, _, _, _, _, _, _, _]) hS [5, 0, 1, 2, 3, 4, 6, 7] (by decide) rfl rfl
  refine ck hF rfl (l15After_c (s := s) (t := mergeT s t) hp hS) ?_; rintro v w16 a ⟨rfl, hS⟩ hF
  refine wl_nil ?_
  refine xt ?_
  refine ret0n rfl hF ⟨rfl, ?_⟩
  unfold scanT
  rw [if_neg c55, if_pos c108]
  exact (Sep.headp (A := [_, _, _, _, _, _, _, _]) (B := [_, _, _, _]) hS [0, 6, 7, 1] (by decide) rfl rfl)
 refine wp_skip ?_
 refine xt ?_
 replace hS := Sep.thr_back (t' := mergeT s t) (y0 := (_, _, _)) (y1 := (_, _, _)) (y2 := (_, _, _)) (y3 := (_, _, _)) (y4 := (_, _, _)) (Sep.headp (A := [_, _, _, _, _, _, _, _, _, _, _, _, _]) (B := [_, _, _, _, _, _, _, _, _, _, _, _, _]) hS [4, 5, 2, 0, 8, 9, 1, 3, 6, 7, 10, 11, 12] (by decide) rfl rfl) rfl
 refine ret0n rfl hF ⟨rfl, ?_⟩
 unfold scanT
 rw [if_neg c55, if_neg c108]
 exact (Sep.headp (A := [_, _, _, _, _, _, _, _]) (B := [_, _, _, _]) hS [5, 6, 7, 0] (by decide) rfl rfl)
theorem l15Flush_c {W w : World} {l : List Res} {g gt ot mt ct p : Nat} {z0 z1 : Slv} {s : Sl.State} {t : Sl.Thread} (hp : p < s.threads.length) (hf : Fit s t) (hS : Sep W (Box g ((s).encv (sv z0) (sv z1) (.slice (some ⟨gt, ot, none⟩) mt ct)) :: Own intEK (sv z0) (s).cells :: Own intEK (sv z1) (s).generations :: Own threadEK (.slice (some ⟨gt, ot, none⟩) mt ct) (s.threads.set p t) :: l) w) : Calls Tryz.prog 122 #[.pointer (some ⟨g, 0, none⟩), vi (p : Int)] w (Ret fun v w' => v = .tuple #[] ∧ Sep W (Box g (((flushS s t (p : Int)).1).encv (sv z0) (sv z1) (.slice (some ⟨gt, ot, none⟩) mt ct)) :: Own intEK (sv z0) ((flushS s t (p : Int)).1).cells :: Own intEK (sv z1) ((flushS s t (p : Int)).1).generations :: Own threadEK (.slice (some ⟨gt, ot, none⟩) mt ct) (s.threads.set p (flushS s t (p : Int)).2) :: l) w') := by
 refine calls_fr Tryz.func122 rfl Tryz.ntmps122 rfl ?_
 intro a hF
 have hl0 := hS.own_len (q := 1) rfl
 have hl1 := hS.own_len (q := 2) rfl
 have hmt : mt = s.threads.length := by have := hS.own_len (q := 3) (s := (some ⟨gt, ot, none⟩, mt, ct)) rfl; simpa using this
 refine ws fun K1 hK1 => ?_
 refine gb 5 0 hF hS rfl rfl rfl fun a hF => ?_
 refine wl hF rfl rfl rfl (r_index sl27 (hF.ev rfl) (hF.ev rfl) (by omega) (by first | omega | (dsimp only; omega))) fun a hF => ?_
 refine ge hK1 hF rfl fun a hF => ?_
 refine ws fun K2 hK2 => ?_
 refine ga 3 hF rfl fun a hF => ?_
 refine wl hF rfl rfl rfl (r_load1 sc3 (hF.ev rfl) (hS.elt1 (q := 3) (j := 0) hp rfl (fun _ => rfl))) fun a hF => ?_
 refine wl_nil (hK2 _ _ ?_)
 refine wp_block ?_
 refine rg hF rfl fun a hF => ?_
 refine cx 15 hF rfl (fun c15 hF => ?_) fun c15 hF => ?_
 ·
  refine wp_region_lit ?_
  refine ga 2 hF rfl fun a hF => ?_
  refine ck hF rfl (l15Scan_c hp hf hS) ?_; rintro v w1 a ⟨rfl, hS⟩ hF
  refine wl_nil ?_
  refine xt ?_
  refine ret0n rfl hF ⟨rfl, ?_⟩
  unfold flushS
  rw [if_pos c15]
  exact hS
 refine rg hF rfl fun a hF => ?_
 refine cx 20 hF rfl (fun c20 hF => ?_) fun c20 hF => ?_
 ·
  obtain ⟨A0_, A1_, A2_, A3_, A4_, k0_, k1_, k2_, k3_, k4_, ⟨n0_, n1_, n2_, n3_, n4_⟩, ⟨q0_, q1_, q2_, q3_, q4_⟩, hS_⟩ := Sep.thr_lend (t := t) (Sep.headp (A := [_, _, _, _]) (B := [_, _, _, _]) hS [3, 0, 1, 2] (by decide) rfl rfl) hp; replace hS := hS_; clear hS_; unfold maxLen at n0_ n1_ n2_ n3_ n4_; try dsimp only at n0_ n1_ n2_ n3_ n4_ q0_ q1_ q2_ q3_ q4_
  dsimp only [Thread.encv] at hS
  have hwl := hf.work (by omega)
  have hwx : t.work[0]? = some (at0 t.work 0) := at0_nat (k := 0) (by omega)
  have hh := hf.hand hwl
  obtain ⟨gw, ow, mw, cw, hvw, _⟩ := Rd.idxF (hS.own_rd (i := 3) rfl) hwx; simp only [Value.slice.injEq] at hvw; obtain ⟨rfl, _, _⟩ := hvw
  refine ws fun K5 hK5 => ?_
  refine ga 6 hF rfl fun a hF => ?_
  refine wl hF rfl rfl rfl (r_load1 sc40 (hF.ev rfl) (hS.but1 (q := 5) (j := 17) rfl rfl)) fun a hF => ?_
  refine wl hF rfl rfl rfl (r_index sl40 (hF.ev rfl) ec (by omega) (by omega)) fun a hF => ?_
  refine ga 1 hF rfl fun a hF => ?_
  refine wl hF rfl rfl rfl (r_load1 sc3 (hF.ev rfl) (hS.own_cell (q := 3) (i := 0) (j := 0) rfl hwx rfl)) fun a hF => ?_
  replace hS := Sep.headp (A := [_, _, _, _, _, _, _, _, _]) (B := [_, _, _, _, _, _, _, _, _]) hS [6, 8, 0, 1, 2, 3, 4, 5, 7] (by decide) rfl rfl
  refine ck hF rfl (l9Cell_c (s := s) hh hf.lg hS) ?_; rintro v w2 a ⟨rfl, hS⟩ hF
  refine ckr hF hS rfl (l9LoadR_c (fun j u hu => hS.box7 (i := 0) rfl j u hu) (hS.own_rd (i := 8) rfl)) fun w3 a hS hF => ?_
  refine ga 2 hF rfl fun a hF => ?_
  refine wl_bstore (q := 7) (j := 11) hF hS rfl sz3 (hF.ev rfl) rfl (hF.ev rfl) rfl rfl fun w4 hS => ?_; dsimp only [List.set] at hS
  refine wl_nil (hK5 _ _ ?_)
  refine wp_region_lit ?_
  refine ga 3 hF rfl fun a hF => ?_
  refine wl_bstore (q := 7) (j := 0) hF hS rfl sz3 (hF.ev rfl) rfl ec rfl rfl fun w5 hS => ?_; dsimp only [List.set] at hS
  refine wl_nil ?_
  refine xt ?_
  replace hS := Sep.thr_back (t' := { t with seen := loadC s.cells (cellOf s (at0 t.work 0).handle 2), pc := 61 }) (y0 := (_, _, _)) (y1 := (_, _, _)) (y2 := (_, _, _)) (y3 := (_, _, _)) (y4 := (_, _, _)) (Sep.headp (A := [_, _, _, _, _, _, _, _, _]) (B := [_, _, _, _, _, _, _, _, _]) hS [2, 3, 4, 5, 6, 7, 0, 1, 8] (by decide) rfl rfl) rfl
  refine ret0n rfl hF ⟨rfl, ?_⟩
  unfold flushS
  rw [if_neg c15, if_pos c20]
  exact (Sep.headp (A := [_, _, _, _]) (B := [_, _, _, _]) hS [1, 3, 2, 0] (by decide) rfl rfl)
 refine rg hF rfl fun a hF => ?_
 refine cx 39 hF rfl (fun c39 hF => ?_) fun c39 hF => ?_
 ·
  obtain ⟨A0_, A1_, A2_, A3_, A4_, k0_, k1_, k2_, k3_, k4_, ⟨n0_, n1_, n2_, n3_, n4_⟩, ⟨q0_, q1_, q2_, q3_, q4_⟩, hS_⟩ := Sep.thr_lend (t := t) (Sep.headp (A := [_, _, _, _]) (B := [_, _, _, _]) hS [3, 0, 1, 2] (by decide) rfl rfl) hp; replace hS := hS_; clear hS_; unfold maxLen at n0_ n1_ n2_ n3_ n4_; try dsimp only at n0_ n1_ n2_ n3_ n4_ q0_ q1_ q2_ q3_ q4_
  dsimp only [Thread.encv] at hS
  have hwl := hf.work (by omega)
  have hwx : t.work[0]? = some (at0 t.work 0) := at0_nat (k := 0) (by omega)
  have hh := hf.hand hwl
  obtain ⟨gw, ow, mw, cw, hvw, _⟩ := Rd.idxF (hS.own_rd (i := 3) rfl) hwx; simp only [Value.slice.injEq] at hvw; obtain ⟨rfl, _, _⟩ := hvw
  refine ws fun K7 hK7 => ?_
  refine ga 3 hF rfl fun a hF => ?_
  refine wl_bstore (q := 5) (j := 0) hF hS rfl sz3 (hF.ev rfl) rfl ec rfl rfl fun w6 hS => ?_; dsimp only [List.set] at hS
  refine wl_nil (hK7 _ _ ?_)
  refine wp_seq_k fun K8 hK8 => ?_
  replace hS := Sep.headp (A := [_, _, _, _, _, _, _, _, _]) (B := [_, _, _, _, _, _, _, _, _]) hS [6, 0, 1, 2, 3, 4, 5, 7, 8] (by decide) rfl rfl
  refine wp_region_J (is := [0, 1, 2, 3, 4, 5, 6, 7, 8, 10, 11, 12, 13, 14, 15, 16, 17, 9, 18, 19, 20]) (fun (f : Int) r => Box g (s.encf (sv z0) (sv z1) (.slice (some ⟨gt, ot, none⟩) mt ct) f) :: r) _ (s.faults) [19, 20] (by kernel_rfl) hF hS (by kernel_rfl) ?_
  refine tj_pure (by kernel_rfl) rfl (gw0 rfl) rfl rfl (fun a w_ hF => r_move (hF.ev rfl)) ?_
  refine tj_pure (by kernel_rfl) rfl (gw0 rfl) rfl rfl (fun a w_ hF => r_move (hF.ev rfl)) ?_
  refine tj_pure (by kernel_rfl) rfl (gw0 rfl) rfl rfl (fun a w_ hF => r_move (hF.ev rfl)) ?_
  refine tj_pure (by kernel_rfl) rfl (gw0 rfl) rfl rfl (fun a w_ hF => r_nilCheck (hF.ev rfl)) ?_
  refine tj_pure (by kernel_rfl) rfl (gw0 rfl) rfl rfl (fun a w_ hF => r_field fo42_14 (hF.ev rfl)) ?_
  refine tj_load [6, 7, 8, 9, 18, 19, 20] (by kernel_rfl) rfl (gw0 rfl) rfl rfl (fun a w_ x_ hF hS => r_load1 sc40 (hF.ev rfl) (hS.but1 (q := 6) (j := 17) rfl rfl)) ?_
  refine tj_pure (by kernel_rfl) rfl (gw0 rfl) rfl rfl (fun a w_ hF => r_index sl40 (hF.ev rfl) ec (by omega) (by omega)) ?_
  refine tj_pure (by kernel_rfl) rfl (gw0 rfl) rfl rfl (fun a w_ hF => r_field fo83_0 (hF.ev rfl)) ?_
  refine tj_load [9, 18, 19, 20] (by kernel_rfl) rfl (gw0 rfl) rfl rfl (fun a w_ x_ hF hS => r_load1 sc3 (hF.ev rfl) (hS.own_cell (q := 4) (i := 0) (j := 0) rfl hwx rfl)) ?_
  refine tj_pure (by kernel_rfl) rfl (gw0 rfl) rfl rfl (fun a w_ hF => r_move (hF.ev rfl)) ?_
  refine tj_pure (by kernel_rfl) rfl (gw0 rfl) rfl rfl (fun a w_ hF => r_nilCheck (hF.ev rfl)) ?_
  refine tj_pure (by kernel_rfl) rfl (gw0 rfl) rfl rfl (fun a w_ hF => r_field fo42_8 (hF.ev rfl)) ?_
  refine tj_load [19, 20] (by kernel_rfl) rfl (gw0 rfl) rfl rfl (fun a w_ x_ hF hS => r_load1 sc3 (hF.ev rfl) (hS.but1 (q := 6) (j := 11) rfl rfl)) ?_
  refine tj_pure (by kernel_rfl) rfl (gw0 rfl) rfl rfl (fun a w_ hF => r_move (hF.ev rfl)) ?_
  refine tj_pure (by kernel_rfl) rfl (gw0 rfl) rfl rfl (fun a w_ hF => r_nilCheck (hF.ev rfl)) ?_
  refine tj_pure (by kernel_rfl) rfl (gw0 rfl) rfl rfl (fun a w_ hF => r_field fo42_8 (hF.ev rfl)) ?_
  refine tj_load [18, 19, 20] (by kernel_rfl) rfl (gw0 rfl) rfl rfl (fun a w_ x_ hF hS => r_load1 sc3 (hF.ev rfl) (hS.but1 (q := 6) (j := 11) rfl rfl)) ?_
  refine tj_mc (by kernel_rfl) rfl (gw0 rfl) rfl rfl (fun a w_ hF => r_call3 en166 (hF.ev rfl) (hF.ev rfl) ec) (fun w_ hS => calls_unit (l9Cell_c (s := s) hh hf.lg (Sep.headp (A := [_, _, _, _, _, _, _, _, _]) (B := [_, _, _, _, _, _, _, _, _]) hS [0, 8, 1, 2, 3, 4, 5, 6, 7] (by decide) rfl rfl))) (fun _ w_ h_ => ⟨_, (Sep.headp (A := [_, _, _, _, _, _, _, _, _]) (B := [_, _, _, _, _, _, _, _, _]) h_ [0, 2, 3, 4, 5, 6, 7, 8, 1] (by decide) rfl rfl)⟩) ?_; intro _
  refine tj_rd (by kernel_rfl) rfl (gw0 rfl) rfl rfl (fun a w_ hF => r_call1 en170 (hF.ev rfl)) (fun w_ hS => specMarked_c hf.seen) ?_
  refine tj_fin (tl := [_, _]) (by kernel_rfl) rfl ?_; intro a w7 hF hS; try dsimp only at hS
  replace hS := Sep.headp (A := [_, _, _, _, _, _, _, _, _]) (B := [_, _, _, _, _, _, _, _, _]) hS [0, 8, 1, 2, 3, 4, 5, 6, 7] (by decide) rfl rfl
  refine ck hF rfl (l9Swap_c (s := faultS s (at0 t.work 0).handle) hS) ?_; rintro v w8 a ⟨rfl, hS⟩ hF
  refine ga 1 hF rfl fun a hF => ?_
  refine wl_nil ⟨rfl, ?_⟩
  refine hK8 _ _ ?_
  refine cx 64 hF rfl (fun c64 hF => ?_) fun c64 hF => ?_
  ·
   replace c64 : ¬ hitB s.cells (cellOf s (at0 t.work 0).handle 2) t.seen = true := fun h => by rw [show hitB (faultS s (at0 t.work 0).handle).cells (cellOf s (at0 t.work 0).handle 2) t.seen = true from h] at c64; cases c64
   refine ws fun K9 hK9 => ?_
   refine gb 8 0 hF hS rfl rfl rfl fun a hF => ?_
   refine wv 0 hF hS rfl rfl rfl rfl rfl rfl fun w9 hS => ?_
   refine wl_nil (hK9 _ _ ?_)
   refine wp_region_lit ?_
   refine ga 3 hF rfl fun a hF => ?_
   refine wl_bstore (q := 8) (j := 0) hF hS rfl sz3 (hF.ev rfl) rfl ec rfl rfl fun w10 hS => ?_; dsimp only [List.set] at hS
   refine wl_nil ?_
   refine xt ?_
   replace hS := Sep.thr_back (t' := { t with pc := 60 }) (y0 := (_, _, _)) (y1 := (_, _, _)) (y2 := (_, _, _)) (y3 := (_, _, _)) (y4 := (_, _, _)) (Sep.headp (A := [_, _, _, _, _, _, _, _, _]) (B := [_, _, _, _, _, _, _, _, _]) hS [3, 4, 5, 6, 7, 8, 0, 1, 2] (by decide) rfl rfl) rfl
   refine ret0n rfl hF ⟨rfl, ?_⟩
   unfold flushS
   rw [if_neg c15, if_neg c20, if_pos c39, if_neg c64]
   exact (Sep.headp (A := [_, _, _, _]) (B := [_, _, _, _]) hS [1, 2, 3, 0] (by decide) rfl rfl)
  replace c64 : hitB s.cells (cellOf s (at0 t.work 0).handle 2) t.seen = true := c64
  refine wp_skip ?_
  refine xt ?_
  replace hS := Sep.thr_back (t' := { t with pc := 10 }) (y0 := (_, _, _)) (y1 := (_, _, _)) (y2 := (_, _, _)) (y3 := (_, _, _)) (y4 := (_, _, _)) (Sep.headp (A := [_, _, _, _, _, _, _, _, _]) (B := [_, _, _, _, _, _, _, _, _]) hS [3, 4, 5, 6, 7, 8, 0, 1, 2] (by decide) rfl rfl) rfl
  refine ret0n rfl hF ⟨rfl, ?_⟩
  unfold flushS
  rw [if_neg c15, if_neg c20, if_pos c39, if_pos c64]
  exact (Sep.headp (A := [_, _, _, _]) (B := [_, _, _, _]) hS [1, 2, 3, 0] (by decide) rfl rfl)
 refine rg hF rfl fun a hF => ?_
 refine cx 76 hF rfl (fun c76 hF => ?_) fun c76 hF => ?_
 ·
  refine ws fun K11 hK11 => ?_
  refine ga 4 hF rfl fun a hF => ?_
  refine wl hF rfl rfl rfl (r_loadn ag25 (hF.ev rfl) (hS.boxn (vs := [_, _, _, _, _, _]) (i := 0) (m := 6) rfl rfl) sz25) fun a hF => ?_
  refine ga 1 hF rfl fun a hF => ?_
  refine ckr hF hS rfl (specHazardCell_c _ _ _) fun w11 a hS hF => ?_
  refine ck hF rfl (l9Put_c (s := s) hS) ?_; rintro v w12 a ⟨rfl, hS⟩ hF
  refine wl_nil (hK11 _ _ ?_)
  refine wp_region_lit ?_
  refine ga 3 hF rfl fun a hF => ?_
  refine wl_estore (q := 3) (j := 0) (⟨_, ⟨_, _, _⟩, ⟨_, _⟩, _, _, _, _, _, _, _, _, _, _, _, _, _⟩ : Sl.Thread) hF hS hp rfl sz3 (hF.ev rfl) rfl ec rfl (fun _ => rfl) (fun _ => by dsimp only [threadEK, Thread.encv, List.set] <;> rfl) (by intro _; rfl) fun w13 hS => ?_; dsimp only [List.set] at hS
  refine wl_nil ?_
  refine xt ?_
  refine ret0n rfl hF ⟨rfl, ?_⟩
  unfold flushS
  rw [if_neg c15, if_neg c20, if_neg c39, if_pos c76]
  exact hS
 refine rg hF rfl fun a hF => ?_
 refine cx 89 hF rfl (fun c89 hF => ?_) fun c89 hF => ?_
 ·
  refine ws fun K13 hK13 => ?_
  refine ga 4 hF rfl fun a hF => ?_
  refine wl hF rfl rfl rfl (r_loadn ag25 (hF.ev rfl) (hS.boxn (vs := [_, _, _, _, _, _]) (i := 0) (m := 6) rfl rfl) sz25) fun a hF => ?_
  refine ga 1 hF rfl fun a hF => ?_
  refine ckr hF hS rfl (specHazardCell_c _ _ _) fun w14 a hS hF => ?_
  refine ck hF rfl (l9Put_c (s := s) hS) ?_; rintro v w15 a ⟨rfl, hS⟩ hF
  refine wl_nil (hK13 _ _ ?_)
  refine wp_region_lit ?_
  refine ga 2 hF rfl fun a hF => ?_
  replace hS := Sep.headp (A := [_, _, _, _]) (B := [_, _, _, _]) hS [0, 3, 1, 2] (by decide) rfl rfl
  refine ck hF rfl (l15After_c (s := putS s (hazardCell s.config (p : Int) 1) 0) hp hS) ?_; rintro v w16 a ⟨rfl, hS⟩ hF
  refine wl_nil ?_
  refine xt ?_
  refine ret0n rfl hF ⟨rfl, ?_⟩
  unfold flushS
  rw [if_neg c15, if_neg c20, if_neg c39, if_neg c76, if_pos c89]
  exact (Sep.headp (A := [_, _, _, _]) (B := [_, _, _, _]) hS [0, 2, 3, 1] (by decide) rfl rfl)
 refine wp_skip ?_
 refine xt ?_
 refine ret0n rfl hF ⟨rfl, ?_⟩
 unfold flushS
 rw [if_neg c15, if_neg c20, if_neg c39, if_neg c76, if_neg c89]
 exact hS
theorem specIsFlush_c {W : World} {n : Int} : Calls Tryz.prog 121 #[vi n] W (Ret fun v w' => v = .bool (isF n) ∧ Below W.heap.size W w') := by
 refine calls_fr Tryz.func121 rfl Tryz.ntmps121 rfl ?_
 intro a hF
 have hS := Sep.refl W
 refine rg hF rfl fun a hF => ?_
 refine ws fun K2 hK2 => ?_
 refine ga 3 hF rfl fun a hF => ?_
 apply wo 3 5 8 hF hS
 ·
  intro hg5 a hF
  refine ga 1 hF rfl fun a hF => ?_
  refine ckr hF hS rfl (l1In_c _ _ _) fun w1 a hS hF => ?_
  exact je 3 hF hS rfl rfl rfl rfl
 intro a w2 hF hS
 refine ge hK2 hF rfl fun a hF => ?_
 refine wp_ret ?_
 refine xt ?_
 exact ret1 rfl hF rfl ⟨rfl, hS.old⟩
end Go.Proofs.YtgofolgogfmhgaaGreat.Wk
namespace Go.Proofs.YtgofolgogfmhgaaGreat.Wk
open Go Go.RowKit Sl
set_option linter.unusedVariables false
set_option linter.unusedSimpArgs false
set_option maxRecDepth 20000
def beginS (s : Sl.State) (t : Sl.Thread) (p : Int) : Sl.State × Sl.Thread :=
  if t.pc = 1 then (s, { t with seen := at0 s.cells 0, pc := if s.config.clockMax ≤ at0 s.cells 0 then 5 else 2 })
  else if t.pc = 2 then (putS s (announceCell s.config p) t.seen, { t with pc := 3 })
  else if t.pc = 3 then if at0 s.cells 0 = t.seen then (s, { t with pc := 4 }) else ({ s with retries := IntKind.i64.wrap (s.retries + 1) }, { t with pc := 1 })
  else if t.pc = 4 then (swapS s 0 t.seen (IntKind.i64.wrap (t.seen + 1)), endT { t with snapshot := t.seen } 0 0)
  else if t.pc = 5 then (putS s (announceCell s.config p) 0, endT t 5 0)
  else (s, t)
def isB (n : Int) : Bool := decide (1 ≤ n ∧ n ≤ 5)
theorem l11Begin_c {W w : World} {l : List Res} {g gt ot mt ct p : Nat} {z0 z1 : Slv} {s : Sl.State} {t : Sl.Thread} (hp : p < s.threads.length) (hlc : 2 ≤ s.cells.length) (hS : Sep W (Box g ((s).encv (sv z0) (sv z1) (.slice (some ⟨gt, ot, none⟩) mt ct)) :: Own intEK (sv z0) (s).cells :: Own intEK (sv z1) (s).generations :: Own threadEK (.slice (some ⟨gt, ot, none⟩) mt ct) (s.threads.set p t) :: l) w) : Calls Tryz.prog 112 #[.pointer (some ⟨g, 0, none⟩), vi (p : Int)] w (Ret fun v w' => v = .tuple #[] ∧ Sep W (Box g (((beginS s t (p : Int)).1).encv (sv z0) (sv z1) (.slice (some ⟨gt, ot, none⟩) mt ct)) :: Own intEK (sv z0) ((beginS s t (p : Int)).1).cells :: Own intEK (sv z1) ((beginS s t (p : Int)).1).generations :: Own threadEK (.slice (some ⟨gt, ot, none⟩) mt ct) (s.threads.set p (beginS s t (p : Int)).2) :: l) w') := by
 refine calls_fr Tryz.func112 rfl Tryz.ntmps112 rfl ?_
 intro a hF
 have hl0 := hS.own_len (q := 1) rfl
 have hl1 := hS.own_len (q := 2) rfl
 have hmt : mt = s.threads.length := by have := hS.own_len (q := 3) (s := (some ⟨gt, ot, none⟩, mt, ct)) rfl; simpa using this
 refine ws fun K1 hK1 => ?_
 refine gb 5 0 hF hS rfl rfl rfl fun a hF => ?_
 refine wl hF rfl rfl rfl (r_index sl27 (hF.ev rfl) (hF.ev rfl) (by omega) (by first | omega | (dsimp only; omega))) fun a hF => ?_
 refine ge hK1 hF rfl fun a hF => ?_
 refine ws fun K2 hK2 => ?_
 refine ga 3 hF rfl fun a hF => ?_
 refine wl hF rfl rfl rfl (r_loadn ag25 (hF.ev rfl) (hS.boxn (vs := [_, _, _, _, _, _]) (i := 0) (m := 6) rfl rfl) sz25) fun a hF => ?_
 refine ga 1 hF rfl fun a hF => ?_
 refine ckr hF hS rfl (specAnnounceCell_c _ _) fun w1 a hS hF => ?_
 refine ge hK2 hF rfl fun a hF => ?_
 refine ws fun K3 hK3 => ?_
 refine ga 3 hF rfl fun a hF => ?_
 refine wl hF rfl rfl rfl (r_load1 sc3 (hF.ev rfl) (hS.elt1 (q := 3) (j := 0) hp rfl (fun _ => rfl))) fun a hF => ?_
 refine wl_nil (hK3 _ _ ?_)
 refine wp_block ?_
 refine rg hF rfl fun a hF => ?_
 refine cx 22 hF rfl (fun c22 hF => ?_) fun c22 hF => ?_
 ·
  refine ws fun K5 hK5 => ?_
  refine gb 5 0 hF hS rfl rfl rfl fun a hF => ?_
  obtain ⟨g29, o29, m29, q29, hv29, hm29, hl29, hc29⟩ := Rd.atF ((hS.own_rd (i := 1) rfl)) (a := a) (X := .const (.int .i64 0)) ec (by omega) (by omega)
  refine wl hF rfl rfl rfl (r_index sl26 ((hF.ev rfl).trans hv29) ec (by omega) (by first | omega | (simp at hm29; omega))) fun a hF => ?_
  refine wl hF rfl rfl rfl (r_load1 sc3 (hF.ev rfl) (hc29 0 _ rfl)) fun a hF => ?_
  refine ga 2 hF rfl fun a hF => ?_
  refine wl_estore (q := 3) (j := 11) (⟨_, ⟨_, _, _⟩, ⟨_, _⟩, _, _, _, _, _, _, _, _, _, _, _, _, _⟩ : Sl.Thread) hF hS hp rfl sz3 (hF.ev rfl) rfl (hF.ev rfl) rfl (fun _ => rfl) (fun _ => by dsimp only [threadEK, Thread.encv, List.set] <;> rfl) (by intro _; rfl) fun w2 hS => ?_; dsimp only [List.set] at hS
  refine wl_nil (hK5 _ _ ?_)
  refine ws fun K6 hK6 => ?_
  refine ga 3 hF rfl fun a hF => ?_
  refine wl_estore (q := 3) (j := 0) (⟨_, ⟨_, _, _⟩, ⟨_, _⟩, _, _, _, _, _, _, _, _, _, _, _, _, _⟩ : Sl.Thread) hF hS hp rfl sz3 (hF.ev rfl) rfl ec rfl (fun _ => rfl) (fun _ => by dsimp only [threadEK, Thread.encv, List.set] <;> rfl) (by intro _; rfl) fun w3 hS => ?_; dsimp only [List.set] at hS
  refine wl_nil (hK6 _ _ ?_)
  refine wp_seq_k fun K7 hK7 => ?_
  refine wp_region_calm (by kernel_rfl) (by kernel_rfl) ?_
  refine qa 3 hF tk rfl fun a hF => ?_
  refine wq hF rfl rfl rfl (fun w_ hB_ => r_load1 sc3 (hF.ev rfl) ((hS.ext hB_).elt1 (q := 3) (j := 11) hp rfl (fun _ => rfl))) fun a hF => ?_
  refine qb 6 0 hF tk hS rfl rfl rfl fun a hF => ?_
  refine wpQuiet_nil ?_; intro w4 hB_; have hS := hS.ext hB_
  refine hK7 _ _ ?_
  refine cx 45 hF rfl (fun c45 hF => ?_) fun c45 hF => ?_
  ·
   refine wp_region_lit ?_
   refine ga 3 hF rfl fun a hF => ?_
   refine wl_estore (q := 3) (j := 0) (⟨_, ⟨_, _, _⟩, ⟨_, _⟩, _, _, _, _, _, _, _, _, _, _, _, _, _⟩ : Sl.Thread) hF hS hp rfl sz3 (hF.ev rfl) rfl ec rfl (fun _ => rfl) (fun _ => by dsimp only [threadEK, Thread.encv, List.set] <;> rfl) (by intro _; rfl) fun w5 hS => ?_; dsimp only [List.set] at hS
   refine wl_nil ?_
   refine xt ?_
   refine ret0n rfl hF ⟨rfl, ?_⟩
   unfold beginS
   rw [if_pos c22, if_pos c45]
   exact hS
  refine wp_skip ?_
  refine xt ?_
  refine ret0n rfl hF ⟨rfl, ?_⟩
  unfold beginS
  rw [if_pos c22, if_neg c45]
  exact hS
 refine rg hF rfl fun a hF => ?_
 refine cx 49 hF rfl (fun c49 hF => ?_) fun c49 hF => ?_
 ·
  refine ws fun K9 hK9 => ?_
  refine ga 5 hF rfl fun a hF => ?_
  refine wl hF rfl rfl rfl (r_load1 sc3 (hF.ev rfl) (hS.elt1 (q := 3) (j := 11) hp rfl (fun _ => rfl))) fun a hF => ?_
  refine ck hF rfl (l9Put_c (s := s) hS) ?_; rintro v w6 a ⟨rfl, hS⟩ hF
  refine wl_nil (hK9 _ _ ?_)
  refine wp_region_lit ?_
  refine ga 3 hF rfl fun a hF => ?_
  refine wl_estore (q := 3) (j := 0) (⟨_, ⟨_, _, _⟩, ⟨_, _⟩, _, _, _, _, _, _, _, _, _, _, _, _, _⟩ : Sl.Thread) hF hS hp rfl sz3 (hF.ev rfl) rfl ec rfl (fun _ => rfl) (fun _ => by dsimp only [threadEK, Thread.encv, List.set] <;> rfl) (by intro _; rfl) fun w7 hS => ?_; dsimp only [List.set] at hS
  refine wl_nil ?_
  refine xt ?_
  refine ret0n rfl hF ⟨rfl, ?_⟩
  unfold beginS
  rw [if_neg c22, if_pos c49]
  exact hS
 refine rg hF rfl fun a hF => ?_
 refine cx 61 hF rfl (fun c61 hF => ?_) fun c61 hF => ?_
 ·
  refine ws fun K11 hK11 => ?_
  refine ga 3 hF rfl fun a hF => ?_
  refine wl_estore (q := 3) (j := 0) (⟨_, ⟨_, _, _⟩, ⟨_, _⟩, _, _, _, _, _, _, _, _, _, _, _, _, _⟩ : Sl.Thread) hF hS hp rfl sz3 (hF.ev rfl) rfl ec rfl (fun _ => rfl) (fun _ => by dsimp only [threadEK, Thread.encv, List.set] <;> rfl) (by intro _; rfl) fun w8 hS => ?_; dsimp only [List.set] at hS
  refine wl_nil (hK11 _ _ ?_)
  refine wp_seq_k fun K12 hK12 => ?_
  refine wp_region_calm (by kernel_rfl) (by kernel_rfl) ?_
  refine qb 4 0 hF tk hS rfl rfl rfl fun a hF => ?_
  obtain ⟨g70, o70, m70, q70, hv70, hm70, hl70, hc70⟩ := Rd.atF ((hS.own_rd (i := 1) rfl)) (a := a) (X := .const (.int .i64 0)) ec (by omega) (by omega)
  refine wq hF rfl rfl rfl (fun w_ hB_ => r_index sl26 ((hF.ev rfl).trans hv70) ec (by omega) (by first | omega | (simp at hm70; omega))) fun a hF => ?_
  refine wq hF rfl rfl rfl (fun w_ hB_ => r_load1 sc3 (hF.ev rfl) (cellB hB_ (hc70 0 _ rfl))) fun a hF => ?_
  refine qa 3 hF tk rfl fun a hF => ?_
  refine wq hF rfl rfl rfl (fun w_ hB_ => r_load1 sc3 (hF.ev rfl) ((hS.ext hB_).elt1 (q := 3) (j := 11) hp rfl (fun _ => rfl))) fun a hF => ?_
  refine qa 1 hF tk rfl fun a hF => ?_
  refine wpQuiet_nil ?_; intro w9 hB_; have hS := hS.ext hB_
  refine hK12 _ _ ?_
  refine cx 76 hF rfl (fun c76 hF => ?_) fun c76 hF => ?_
  ·
   refine ws fun K13 hK13 => ?_
   refine gb 8 0 hF hS rfl rfl rfl fun a hF => ?_
   refine wv 0 hF hS rfl rfl rfl rfl rfl rfl fun w10 hS => ?_
   refine wl_nil (hK13 _ _ ?_)
   refine wp_region_lit ?_
   refine ga 3 hF rfl fun a hF => ?_
   refine wl_estore (q := 3) (j := 0) (⟨_, ⟨_, _, _⟩, ⟨_, _⟩, _, _, _, _, _, _, _, _, _, _, _, _, _⟩ : Sl.Thread) hF hS hp rfl sz3 (hF.ev rfl) rfl ec rfl (fun _ => rfl) (fun _ => by dsimp only [threadEK, Thread.encv, List.set] <;> rfl) (by intro _; rfl) fun w11 hS => ?_; dsimp only [List.set] at hS
   refine wl_nil ?_
   refine xt ?_
   refine ret0n rfl hF ⟨rfl, ?_⟩
   unfold beginS
   rw [if_neg c22, if_neg c49, if_pos c61, if_neg c76]
   exact hS
  refine wp_skip ?_
  refine xt ?_
  refine ret0n rfl hF ⟨rfl, ?_⟩
  unfold beginS
  rw [if_neg c22, if_neg c49, if_pos c61, if_pos c76]
  exact hS
 refine rg hF rfl fun a hF => ?_
 refine cx 88 hF rfl (fun c88 hF => ?_) fun c88 hF => ?_
 ·
  refine wp_seq_k fun K15 hK15 => ?_
  refine wp_region_todo (is := [0, 1, 2, 3, 4, 5, 6, 7, 8, 9, 10]) [] [10] (by kernel_rfl) hF hS ⟨trivial, by decide, by decide, by decide⟩ (by kernel_rfl) ?_; intro hl_ wd hSd
  refine todo_pure hl_ (by kernel_rfl) rfl (gw0 rfl) rfl rfl rfl (fun a w_ hF => r_move (hF.ev rfl)) ?_
  refine todo_pure hl_ (by kernel_rfl) rfl (gw0 rfl) rfl rfl rfl (fun a w_ hF => r_move (hF.ev rfl)) ?_
  refine todo_pure hl_ (by kernel_rfl) rfl (gw0 rfl) rfl rfl rfl (fun a w_ hF => r_nilCheck (hF.ev rfl)) ?_
  refine todo_pure hl_ (by kernel_rfl) rfl (gw0 rfl) rfl rfl rfl (fun a w_ hF => r_field fo42_8 (hF.ev rfl)) ?_
  refine todo_load [10] hl_ (by kernel_rfl) rfl (gw0 rfl) rfl rfl rfl (fun a w_ hF hB_ => r_load1 sc3 (hF.ev rfl) ((hSd.ext hB_).elt1 (q := 3) (j := 11) hp rfl (fun _ => rfl))) ?_
  refine todo_pure hl_ (by kernel_rfl) rfl (gw0 rfl) rfl rfl rfl (fun a w_ hF => r_move (hF.ev rfl)) ?_
  refine todo_pure hl_ (by kernel_rfl) rfl (gw0 rfl) rfl rfl rfl (fun a w_ hF => r_nilCheck (hF.ev rfl)) ?_
  refine todo_pure hl_ (by kernel_rfl) rfl (gw0 rfl) rfl rfl rfl (fun a w_ hF => r_field fo42_8 (hF.ev rfl)) ?_
  refine todo_load [9, 10] hl_ (by kernel_rfl) rfl (gw0 rfl) rfl rfl rfl (fun a w_ hF hB_ => r_load1 sc3 (hF.ev rfl) ((hSd.ext hB_).elt1 (q := 3) (j := 11) hp rfl (fun _ => rfl))) ?_
  refine todo_pure hl_ (by kernel_rfl) rfl (gw0 rfl) rfl rfl rfl (fun a w_ hF => r_add (hF.ev rfl) ec) ?_
  refine todo_fork [(10, [])] hl_ rfl (by kernel_rfl) (List.forall_mem_cons.2 ⟨?_, fun _ h_ => nomatch h_⟩)
  ·
   refine op_mc (Γ := Unit) (m' := []) rfl (gw0 rfl) rfl rfl rfl (fun a w_ hF => r_call4 en163 (hF.ev rfl) ec (hF.ev rfl) (hF.ev rfl)) (fun w_ hS => calls_unit (l9Swap_c (s := s) hS)) ?_; intro _; try clear hSd; try clear wd; intro wd hSd
   refine todo_fin hl_ rfl (by kernel_rfl) (tl := []) rfl ?_; intro a w12 hF hA_
   have hS := hA_.sep; clear hA_
   clear hl_; try clear hSd
   try dsimp only [List.cons_append, List.nil_append, List.set] at hS
   try clear wd
   refine wl_nil ⟨rfl, ?_⟩
   refine hK15 _ _ ?_
   refine ws fun K16 hK16 => ?_
   refine ga 4 hF rfl fun a hF => ?_
   refine wl hF rfl rfl rfl (r_load1 sc3 (hF.ev rfl) (hS.elt1 (q := 3) (j := 11) hp rfl (fun _ => rfl))) fun a hF => ?_
   refine ga 2 hF rfl fun a hF => ?_
   refine wl_estore (q := 3) (j := 6) (⟨_, ⟨_, _, _⟩, ⟨_, _⟩, _, _, _, _, _, _, _, _, _, _, _, _, _⟩ : Sl.Thread) hF hS hp rfl sz3 (hF.ev rfl) rfl (hF.ev rfl) rfl (fun _ => rfl) (fun _ => by dsimp only [threadEK, Thread.encv, List.set] <;> rfl) (by intro _; rfl) fun w13 hS => ?_; dsimp only [List.set] at hS
   refine wl_nil (hK16 _ _ ?_)
   refine wp_region_lit ?_
   refine ga 2 hF rfl fun a hF => ?_
   replace hS := Sep.headp (A := [_, _, _, _]) (B := [_, _, _, _]) hS [0, 3, 1, 2] (by decide) rfl rfl
   refine ck hF rfl (l10Finish_c (s := swapS s 0 t.seen (IntKind.i64.wrap (t.seen + 1))) hp hS) ?_; rintro v w14 a ⟨rfl, hS⟩ hF
   refine wl_nil ?_
   refine xt ?_
   refine ret0n rfl hF ⟨rfl, ?_⟩
   unfold beginS
   rw [if_neg c22, if_neg c49, if_neg c61, if_pos c88]
   exact (Sep.headp (A := [_, _, _, _]) (B := [_, _, _, _]) hS [0, 2, 3, 1] (by decide) rfl rfl)
 refine rg hF rfl fun a hF => ?_
 refine cx 111 hF rfl (fun c111 hF => ?_) fun c111 hF => ?_
 ·
  refine ws fun K18 hK18 => ?_
  refine ga 2 hF rfl fun a hF => ?_
  refine ck hF rfl (l9Put_c (s := s) hS) ?_; rintro v w15 a ⟨rfl, hS⟩ hF
  refine wl_nil (hK18 _ _ ?_)
  refine wp_region_lit ?_
  refine ga 2 hF rfl fun a hF => ?_
  replace hS := Sep.headp (A := [_, _, _, _]) (B := [_, _, _, _]) hS [0, 3, 1, 2] (by decide) rfl rfl
  refine ck hF rfl (l10Finish_c (s := putS s (announceCell s.config (p : Int)) 0) hp hS) ?_; rintro v w16 a ⟨rfl, hS⟩ hF
  refine wl_nil ?_
  refine xt ?_
  refine ret0n rfl hF ⟨rfl, ?_⟩
  unfold beginS
  rw [if_neg c22, if_neg c49, if_neg c61, if_neg c88, if_pos c111]
  exact (Sep.headp (A := [_, _, _, _]) (B := [_, _, _, _]) hS [0, 2, 3, 1] (by decide) rfl rfl)
 refine wp_skip ?_
 refine xt ?_
 refine ret0n rfl hF ⟨rfl, ?_⟩
 unfold beginS
 rw [if_neg c22, if_neg c49, if_neg c61, if_neg c88, if_neg c111]
 exact hS
theorem specIsBegin_c {W : World} {n : Int} : Calls Tryz.prog 111 #[vi n] W (Ret fun v w' => v = .bool (isB n) ∧ Below W.heap.size W w') := by
 refine calls_fr Tryz.func111 rfl Tryz.ntmps111 rfl ?_
 intro a hF
 have hS := Sep.refl W
 refine rg hF rfl fun a hF => ?_
 refine ws fun K2 hK2 => ?_
 refine ga 1 hF rfl fun a hF => ?_
 refine ckr hF hS rfl (l1In_c _ _ _) fun w1 a hS hF => ?_
 refine ge hK2 hF rfl fun a hF => ?_
 refine wp_ret ?_
 refine xt ?_
 exact ret1 rfl hF rfl ⟨rfl, hS.old⟩
end Go.Proofs.YtgofolgogfmhgaaGreat.Wk
namespace Go.Proofs.YtgofolgogfmhgaaGreat.Wk
open Go Go.RowKit Sl
set_option linter.unusedVariables false
set_option linter.unusedSimpArgs false
set_option maxRecDepth 20000
def isWr (n : Int) : Bool := decide (30 ≤ n ∧ n ≤ 47)
def scanEndS (s : Sl.State) (t : Sl.Thread) (p : Int) : Sl.State × Sl.Thread := (putS s (announceCell s.config p) 0, endT { t with snapshot := 0 } 0 0)
def stepS (s : Sl.State) (t : Sl.Thread) (p : Int) : Sl.State × Sl.Thread :=
  if isB t.pc = true then beginS s t p
  else if isW t.pc = true then walkS s t p
  else if isR t.pc = true then readS s t p
  else if isWr t.pc = true then if t.pc ≤ 34 then takeS s t p else if t.pc ≤ 42 then headS s t p else ownS s t p
  else if isF t.pc = true then flushS s t p
  else if t.pc = 70 then reclaimS s t p
  else if t.pc = 80 then scanEndS s t p
  else (s, t)
theorem no_true {b : Bool} (h : b = false) : ¬ b = true := by rw [h]; decide
theorem specIsWrite_c {W : World} {n : Int} : Calls Tryz.prog 117 #[vi n] W (Ret fun v w' => v = .bool (isWr n) ∧ Below W.heap.size W w') := by
 refine calls_fr Tryz.func117 rfl Tryz.ntmps117 rfl ?_
 intro a hF
 have hS := Sep.refl W
 refine rg hF rfl fun a hF => ?_
 refine ws fun K2 hK2 => ?_
 refine ga 1 hF rfl fun a hF => ?_
 refine ckr hF hS rfl (l1In_c _ _ _) fun w1 a hS hF => ?_
 refine ge hK2 hF rfl fun a hF => ?_
 refine wp_ret ?_
 refine xt ?_
 exact ret1 rfl hF rfl ⟨rfl, hS.old⟩
theorem l17Step_c {W w : World} {l : List Res} {g gt ot mt ct p : Nat} {z0 z1 : Slv} {s : Sl.State} {t : Sl.Thread} (hp : p < s.threads.length) (hf : Fit s t) (hS : Sep W (Box g ((s).encv (sv z0) (sv z1) (.slice (some ⟨gt, ot, none⟩) mt ct)) :: Own intEK (sv z0) (s).cells :: Own intEK (sv z1) (s).generations :: Own threadEK (.slice (some ⟨gt, ot, none⟩) mt ct) (s.threads.set p t) :: l) w) : Calls Tryz.prog 62 #[.pointer (some ⟨g, 0, none⟩), vi (p : Int)] w (Ret fun v w' => v = .tuple #[] ∧ Sep W (Box g (((stepS (stepped s) t (p : Int)).1).encv (sv z0) (sv z1) (.slice (some ⟨gt, ot, none⟩) mt ct)) :: Own intEK (sv z0) ((stepS (stepped s) t (p : Int)).1).cells :: Own intEK (sv z1) ((stepS (stepped s) t (p : Int)).1).generations :: Own threadEK (.slice (some ⟨gt, ot, none⟩) mt ct) (s.threads.set p (stepS (stepped s) t (p : Int)).2) :: l) w') := by
 refine calls_fr Tryz.func62 rfl Tryz.ntmps62 rfl ?_
 intro a hF
 have hl0 := hS.own_len (q := 1) rfl
 have hl1 := hS.own_len (q := 2) rfl
 have hmt : mt = s.threads.length := by have := hS.own_len (q := 3) (s := (some ⟨gt, ot, none⟩, mt, ct)) rfl; simpa using this
 have hlc := hf.two
 refine ws fun K1 hK1 => ?_
 refine gb 5 0 hF hS rfl rfl rfl fun a hF => ?_
 refine wl hF rfl rfl rfl (r_index sl27 (hF.ev rfl) (hF.ev rfl) (by omega) (by first | omega | (dsimp only; omega))) fun a hF => ?_
 refine ga 1 hF rfl fun a hF => ?_
 refine wl hF rfl rfl rfl (r_load1 sc3 (hF.ev rfl) (hS.elt1 (q := 3) (j := 0) hp rfl (fun _ => rfl))) fun a hF => ?_
 refine ge hK1 hF rfl fun a hF => ?_
 refine ws fun K2 hK2 => ?_
 refine gb 8 0 hF hS rfl rfl rfl fun a hF => ?_
 refine wv 0 hF hS rfl rfl rfl rfl rfl rfl fun w1 hS => ?_
 refine wl_nil (hK2 _ _ ?_)
 refine wp_block ?_
 refine ws fun K3 hK3 => ?_
 refine ga 1 hF rfl fun a hF => ?_
 refine ckr hF hS rfl (specIsBegin_c) fun w2 a hS hF => ?_
 refine ge hK3 hF rfl fun a hF => ?_
 refine cx 21 hF rfl (fun c21 hF => ?_) fun c21 hF => ?_
 ·
  refine wp_region_lit ?_
  refine ga 2 hF rfl fun a hF => ?_
  refine ck hF rfl (l11Begin_c (s := stepped s) hp hlc hS) ?_; rintro v w3 a ⟨rfl, hS⟩ hF
  refine wl_nil ?_
  refine xt ?_
  refine ret0n rfl hF ⟨rfl, ?_⟩
  unfold stepS
  rw [if_pos c21]
  exact hS
 refine ws fun K4 hK4 => ?_
 refine ga 1 hF rfl fun a hF => ?_
 refine ckr hF hS rfl (specIsWalk_c) fun w4 a hS hF => ?_
 refine ge hK4 hF rfl fun a hF => ?_
 refine cx 27 hF rfl (fun c27 hF => ?_) fun c27 hF => ?_
 ·
  refine wp_region_lit ?_
  refine ga 2 hF rfl fun a hF => ?_
  refine ck hF rfl (l12Walk_c (s := stepped s) hp hf.stepped hS) ?_; rintro v w5 a ⟨rfl, hS⟩ hF
  refine wl_nil ?_
  refine xt ?_
  refine ret0n rfl hF ⟨rfl, ?_⟩
  unfold stepS
  rw [if_neg (no_true c21), if_pos c27]
  exact hS
 refine ws fun K5 hK5 => ?_
 refine ga 1 hF rfl fun a hF => ?_
 refine ckr hF hS rfl (specIsRead_c) fun w6 a hS hF => ?_
 refine ge hK5 hF rfl fun a hF => ?_
 refine cx 33 hF rfl (fun c33 hF => ?_) fun c33 hF => ?_
 ·
  refine wp_region_lit ?_
  refine ga 2 hF rfl fun a hF => ?_
  refine ck hF rfl (l13Read_c (s := stepped s) hp hf.stepped hS) ?_; rintro v w7 a ⟨rfl, hS⟩ hF
  refine wl_nil ?_
  refine xt ?_
  refine ret0n rfl hF ⟨rfl, ?_⟩
  unfold stepS
  rw [if_neg (no_true c21), if_neg (no_true c27), if_pos c33]
  exact hS
 refine ws fun K6 hK6 => ?_
 refine ga 1 hF rfl fun a hF => ?_
 refine ckr hF hS rfl (specIsWrite_c) fun w8 a hS hF => ?_
 refine ge hK6 hF rfl fun a hF => ?_
 refine cx 39 hF rfl (fun c39 hF => ?_) fun c39 hF => ?_
 ·
  refine wp_block ?_
  refine rg hF rfl fun a hF => ?_
  refine cx 45 hF rfl (fun c45 hF => ?_) fun c45 hF => ?_
  ·
   refine wp_region_lit ?_
   refine ga 2 hF rfl fun a hF => ?_
   refine ck hF rfl (l14Take_c (s := stepped s) hp hf.stepped hS) ?_; rintro v w9 a ⟨rfl, hS⟩ hF
   refine wl_nil ?_
   refine xt ?_
   refine ret0n rfl hF ⟨rfl, ?_⟩
   unfold stepS
   rw [if_neg (no_true c21), if_neg (no_true c27), if_neg (no_true c33), if_pos c39, if_pos c45]
   exact hS
  refine rg hF rfl fun a hF => ?_
  refine cx 51 hF rfl (fun c51 hF => ?_) fun c51 hF => ?_
  ·
   refine wp_region_lit ?_
   refine ga 2 hF rfl fun a hF => ?_
   refine ck hF rfl (l14Head_c (s := stepped s) hp hf.stepped hS) ?_; rintro v w10 a ⟨rfl, hS⟩ hF
   refine wl_nil ?_
   refine xt ?_
   refine ret0n rfl hF ⟨rfl, ?_⟩
   unfold stepS
   rw [if_neg (no_true c21), if_neg (no_true c27), if_neg (no_true c33), if_pos c39, if_neg c45, if_pos c51]
   exact hS
  refine wp_region_lit ?_
  refine ga 2 hF rfl fun a hF => ?_
  refine ck hF rfl (l14Own_c (s := stepped s) hp hf.stepped hS) ?_; rintro v w11 a ⟨rfl, hS⟩ hF
  refine wl_nil ?_
  refine xt ?_
  refine ret0n rfl hF ⟨rfl, ?_⟩
  unfold stepS
  rw [if_neg (no_true c21), if_neg (no_true c27), if_neg (no_true c33), if_pos c39, if_neg c45, if_neg c51]
  exact hS
 refine ws fun K9 hK9 => ?_
 refine ga 1 hF rfl fun a hF => ?_
 refine ckr hF hS rfl (specIsFlush_c) fun w12 a hS hF => ?_
 refine ge hK9 hF rfl fun a hF => ?_
 refine cx 57 hF rfl (fun c57 hF => ?_) fun c57 hF => ?_
 ·
  refine wp_region_lit ?_
  refine ga 2 hF rfl fun a hF => ?_
  refine ck hF rfl (l15Flush_c (s := stepped s) hp hf.stepped hS) ?_; rintro v w13 a ⟨rfl, hS⟩ hF
  refine wl_nil ?_
  refine xt ?_
  refine ret0n rfl hF ⟨rfl, ?_⟩
  unfold stepS
  rw [if_neg (no_true c21), if_neg (no_true c27), if_neg (no_true c33), if_neg (no_true c39), if_pos c57]
  exact hS
 refine rg hF rfl fun a hF => ?_
 refine cx 63 hF rfl (fun c63 hF => ?_) fun c63 hF => ?_
 ·
  refine wp_region_lit ?_
  refine ga 2 hF rfl fun a hF => ?_
  refine ck hF rfl (l16Scan_c (s := stepped s) hp hf.stepped hS) ?_; rintro v w14 a ⟨rfl, hS⟩ hF
  refine wl_nil ?_
  refine xt ?_
  refine ret0n rfl hF ⟨rfl, ?_⟩
  unfold stepS
  rw [if_neg (no_true c21), if_neg (no_true c27), if_neg (no_true c33), if_neg (no_true c39), if_neg (no_true c57), if_pos c63]
  exact hS
 refine rg hF rfl fun a hF => ?_
 refine cx 69 hF rfl (fun c69 hF => ?_) fun c69 hF => ?_
 ·
  refine ws fun K12 hK12 => ?_
  refine ga 4 hF rfl fun a hF => ?_
  refine wl hF rfl rfl rfl (r_loadn ag25 (hF.ev rfl) (hS.boxn (vs := [_, _, _, _, _, _]) (i := 0) (m := 6) rfl rfl) sz25) fun a hF => ?_
  refine ga 1 hF rfl fun a hF => ?_
  refine ckr hF hS rfl (specAnnounceCell_c _ _) fun w15 a hS hF => ?_
  refine ck hF rfl (l9Put_c (s := stepped s) hS) ?_; rintro v w16 a ⟨rfl, hS⟩ hF
  refine wl_nil (hK12 _ _ ?_)
  refine ws fun K13 hK13 => ?_
  refine gb 5 0 hF hS rfl rfl rfl fun a hF => ?_
  refine wl hF rfl rfl rfl (r_index sl27 (hF.ev rfl) (hF.ev rfl) (by omega) (by first | omega | (dsimp only; omega))) fun a hF => ?_
  refine ga 1 hF rfl fun a hF => ?_
  refine wl_estore (q := 3) (j := 6) (⟨_, ⟨_, _, _⟩, ⟨_, _⟩, _, _, _, _, _, _, _, _, _, _, _, _, _⟩ : Sl.Thread) hF hS hp rfl sz3 (hF.ev rfl) rfl ec rfl (fun _ => rfl) (fun _ => by dsimp only [threadEK, Thread.encv, List.set] <;> rfl) (by intro _; rfl) fun w17 hS => ?_; dsimp only [List.set] at hS
  refine wl_nil (hK13 _ _ ?_)
  refine wp_region_lit ?_
  refine ga 2 hF rfl fun a hF => ?_
  replace hS := Sep.headp (A := [_, _, _, _]) (B := [_, _, _, _]) hS [0, 3, 1, 2] (by decide) rfl rfl
  refine ck hF rfl (l10Finish_c (s := putS (stepped s) (announceCell s.config (p : Int)) 0) hp hS) ?_; rintro v w18 a ⟨rfl, hS⟩ hF
  refine wl_nil ?_
  refine xt ?_
  refine ret0n rfl hF ⟨rfl, ?_⟩
  unfold stepS
  rw [if_neg (no_true c21), if_neg (no_true c27), if_neg (no_true c33), if_neg (no_true c39), if_neg (no_true c57), if_neg c63, if_pos c69]
  exact (Sep.headp (A := [_, _, _, _]) (B := [_, _, _, _]) hS [0, 2, 3, 1] (by decide) rfl rfl)
 refine wp_skip ?_
 refine xt ?_
 refine ret0n rfl hF ⟨rfl, ?_⟩
 unfold stepS
 rw [if_neg (no_true c21), if_neg (no_true c27), if_neg (no_true c33), if_neg (no_true c39), if_neg (no_true c57), if_neg c63, if_neg c69]
 exact hS
end Go.Proofs.YtgofolgogfmhgaaGreat.Wk
namespace Go.Proofs.YtgofolgogfmhgaaGreat.Wk
open Go Go.RowKit Sl
set_option linter.unusedVariables false
set_option linter.unusedSimpArgs false
set_option maxRecDepth 20000
/-- what every step keeps -/
structure KS (s x : Sl.State) : Prop where
  cf : x.config = s.config
  th : x.threads = s.threads
  lc : x.cells.length = s.cells.length
  lg : x.generations.length = s.generations.length
  wc : ∀ y ∈ x.cells, int64 y
  wg : ∀ y ∈ x.generations, int64 y
  ws : int64 x.steps
  wh : int64 x.changes
  wr : int64 x.retries
  wf : int64 x.faults
theorem int64_wrap (n : Int) : int64 (IntKind.i64.wrap n) := by rw [w64]; unfold int64; omega
theorem int64_ite {c : Prop} [Decidable c] {a b : Int} (ha : int64 a) (hb : int64 b) : int64 (if c then a else b) := by split <;> assumption
theorem int64_marked {h : Int} (h1 : int64 h) : int64 (marked h) := by unfold marked; split <;> first | exact int64_wrap _ | exact h1
theorem int64_indexOf {h : Int} (h1 : int64 h) : int64 (indexOf h) := by unfold indexOf; unfold int64 at *; split <;> omega
theorem int64_makeHandle {i g : Int} : int64 (makeHandle i g) := by unfold makeHandle; split <;> first | exact int64_wrap _ | (unfold int64; omega)
theorem mem_putC {xs : List Int} {a v : Int} (h : ∀ y ∈ xs, int64 y) (hv : int64 v) : ∀ y ∈ putC xs a v, int64 y := by
 intro y hy
 unfold putC at hy
 split at hy
 · rcases List.mem_or_eq_of_mem_set hy with h1 | h1
   · exact h y h1
   · subst h1; exact hv
 · exact h y hy
theorem int64_putN {xs : List Int} {a v n : Int} (h : int64 n) : int64 (putN xs a v n) := by unfold putN; split <;> first | exact int64_wrap _ | exact h
section
variable {s x : Sl.State} {t : Sl.Thread} {a u v h n p : Int}
theorem KS.put (k : KS s x) (hv : int64 v) : KS s (putS x a v) := ⟨k.cf, k.th, (putC_len).trans k.lc, k.lg, mem_putC k.wc hv, k.wg, k.ws, int64_putN k.wh, k.wr, k.wf⟩
theorem KS.swap (k : KS s x) (hv : int64 v) : KS s (swapS x a u v) := by
 refine ⟨k.cf, k.th, ?_, k.lg, ?_, k.wg, k.ws, ?_, k.wr, k.wf⟩ <;> unfold swapS <;> dsimp only <;> split
 · exact (putC_len).trans k.lc
 · exact k.lc
 · exact mem_putC k.wc hv
 · exact k.wc
 · exact int64_putN k.wh
 · exact k.wh
theorem KS.fault (k : KS s x) : KS s (faultS x h) := ⟨k.cf, k.th, k.lc, k.lg, k.wc, k.wg, k.ws, k.wh, k.wr, int64_ite k.wf (int64_wrap _)⟩
theorem KS.prev (k : KS s x) : KS s (prevS x t) := ⟨k.cf, k.th, k.lc, k.lg, k.wc, k.wg, k.ws, k.wh, k.wr, int64_ite k.wf (int64_ite k.wf (int64_wrap _))⟩
theorem KS.retry (k : KS s x) : KS s { x with retries := IntKind.i64.wrap n } := ⟨k.cf, k.th, k.lc, k.lg, k.wc, k.wg, k.ws, k.wh, int64_wrap _, k.wf⟩
theorem KS.stepped (k : KS s x) : KS s (stepped x) := ⟨k.cf, k.th, k.lc, k.lg, k.wc, k.wg, int64_wrap _, k.wh, k.wr, k.wf⟩
/-- a thread that takes a node has seen a number of a node -/
def P31 (c : Config) (t : Sl.Thread) : Prop := t.pc = 31 → 0 ≤ t.seen ∧ t.seen < c.capacity
def SOk (s : Sl.State) (z : Sl.State × Sl.Thread) : Prop := KS s z.1 ∧ z.2.wf ∧ P31 s.config z.2
theorem wf_end {c x : Int} (hw : t.wf) (hc : int64 c) (hx : int64 x) : (endT t c x).wf := by
 obtain ⟨h1, h2, h3, h4, h5, h6, h7, h8, h9, h10, h11, h12, h13, h14, h15, h16⟩ := hw
 unfold endT clearT
 exact ⟨int64_zero, h2, ⟨hc, hx⟩, h4, int64_zero, int64_zero, int64_zero, int64_zero, int64_zero, int64_zero, int64_zero, (fun _ h => by cases h), h13, h14, h15, h16⟩
theorem p31_end {c : Config} {a b : Int} : P31 c (endT t a b) := fun h => by unfold endT at h; simp at h
end
theorem i6 {y : Int} (h : int64 y := by first | assumption | exact int64_makeHandle | (unfold int64; omega) | (unfold int64; dsimp only; omega) | exact int64_wrap _ | exact int64_loadC (by assumption) | exact int64_unmarked (by assumption) | exact int64_unmarked (int64_loadC (by assumption)) | exact int64_marked (by assumption)) : int64 y := h
theorem kso {s : Sl.State} {z : Sl.State × Sl.Thread} (h : SOk s z := by
 repeat' split
 all_goals refine ⟨?_, ?_, ?_⟩
 all_goals try dsimp only
 all_goals first
   | (first
      | exact k
      | exact k.put i6
      | exact k.fault
      | exact k.retry
      | exact k.prev
      | exact k.fault.put i6
      | exact k.swap i6
      | exact k.fault.swap i6
      | exact k.prev.swap i6
      | exact k.prev.retry
      | exact (k.swap i6).retry
      | exact (k.fault.swap i6).retry
      | exact (k.prev.swap i6).retry
      done)
   | exact hi
   | exact p31_end
   | (intro h; exfalso; revert h; dsimp only; first | omega | (split <;> omega) | (split <;> (try split) <;> omega))
   | exact wf_end hw i6 i6
   | (refine ⟨?_, ?_, ?_, ?_, ?_, ?_, ?_, ?_, ?_, ?_, ?_, ?_, ?_, ?_, ?_, ?_⟩ <;> (try dsimp only) <;> first | assumption | exact i6 | exact int64_ite i6 i6 | exact int64_ite i6 (int64_ite i6 i6) | (refine ⟨?_, ?_⟩ <;> first | assumption | exact i6))
   | exact wf_end (t := { t with snapshot := t.seen }) ⟨h1, h2, h3, h9, h5, h6, h7, h8, h9, h10, h11, h12, h13, h14, h15, h16⟩ i6 i6
   | exact wf_end (t := { t with snapshot := 0 }) ⟨h1, h2, h3, int64_zero, h5, h6, h7, h8, h9, h10, h11, h12, h13, h14, h15, h16⟩ i6 i6
   | exact p31_goT
   | (refine goT_wf ?_; refine ⟨?_, ?_, ?_, ?_, ?_, ?_, ?_, ?_, ?_, ?_, ?_, ?_, ?_, ?_, ?_, ?_⟩ <;> (try dsimp only) <;> first | assumption | exact i6 | (refine ⟨?_, ?_⟩ <;> first | assumption | exact i6))
   | (intro _; dsimp only; rw [← hct]; omega)
   | exact wf_clear hw i6
   | (intro h; unfold clearT at h; simp at h; done)
   | (have hne : (newE x t).wf := ⟨h7, ho2, h10, int64_loadC hwc⟩; exact ⟨i6, h2, h3, h4, h5, h6, h7, h8, h9, h10, h11, h12, h13, all_snoc h14 hne, h15, h16⟩)
   | exact scanT_wf hw hwc
   | exact p31_scanT (by assumption)
   | exact afterT_wf hw
   | exact p31_after) : SOk s z := h
theorem int64_at0 {xs : List Int} {i : Int} (h : ∀ y ∈ xs, int64 y) : int64 (at0 xs i) := by
 unfold at0
 cases e : xs[i.toNat]? with
 | none => exact int64_zero
 | some y => exact h y (List.mem_of_getElem? e)
theorem beginS_ok {s x : Sl.State} {t : Sl.Thread} {p : Int} (k : KS s x) (hw : t.wf) (hi : P31 s.config t) : SOk s (beginS x t p) := by
 have hwc := k.wc; have hwg := k.wg
 have hct := k.cf
 obtain ⟨h1, h2, h3, h4, h5, h6, h7, h8, h9, h10, h11, h12, h13, h14, h15, h16⟩ := id hw
 have ho1 := h2.1; have ho2 := h2.2.1; have ho3 := h2.2.2; have hr1 := h3.1; have hr2 := h3.2
 have h00 : int64 (at0 x.cells 0) := int64_at0 hwc
 have h01 : int64 (at0 x.cells 1) := int64_at0 hwc
 unfold beginS
 exact kso
theorem wf_clear {t : Sl.Thread} {n : Int} (hw : t.wf) (hn : int64 n) : ({ clearT t with pc := n } : Sl.Thread).wf := by
 obtain ⟨h1, h2, h3, h4, h5, h6, h7, h8, h9, h10, h11, h12, h13, h14, h15, h16⟩ := hw
 unfold clearT
 exact ⟨hn, h2, h3, h4, int64_zero, int64_zero, int64_zero, int64_zero, int64_zero, int64_zero, int64_zero, (fun _ h => by cases h), h13, h14, h15, h16⟩
theorem all_snoc {α : Type} {P : α → Prop} {xs : List α} {y : α} (h : ∀ x ∈ xs, P x) (hy : P y) : ∀ x ∈ xs ++ [y], P x := by
 intro x hx
 rcases List.mem_append.1 hx with h1 | h1
 · exact h x h1
 · rw [List.mem_singleton.1 h1]; exact hy
theorem goT_wf {t : Sl.Thread} (hw : t.wf) : (goT t).wf := by
 obtain ⟨h1, h2, h3, h4, h5, h6, h7, h8, h9, h10, h11, h12, h13, h14, h15, h16⟩ := hw
 have hd : ∀ x ∈ t.work.drop 1, x.wf := fun x hx => h15 x (List.mem_of_mem_drop hx)
 unfold goT
 split
 · split
   · exact ⟨by unfold int64; dsimp only; omega, h2, ⟨by unfold int64; dsimp only; omega, by unfold int64; dsimp only; omega⟩, h4, h5, h6, h7, h8, h9, h10, h11, h12, h13, h14, h15, h16⟩
   split
   · rename_i hl
     exact ⟨int64_ite (by unfold int64; omega) (by unfold int64; omega), h2, h3, h4, h5, h6, h7, h8, h9, h10, h11, h12, h13, h14, hd, all_snoc h16 (h15 _ (at0_mem (by omega) (by omega))).1⟩
   · exact ⟨by unfold int64; dsimp only; omega, h2, h3, h4, h5, h6, h7, h8, h9, h10, h11, h12, h13, h14, h15, h16⟩
 · exact ⟨by unfold int64; dsimp only; omega, h2, h3, h4, h5, h6, h7, h8, h9, h10, h11, h12, h13, h14, h15, h16⟩
theorem p31_goT {c : Config} {t : Sl.Thread} : P31 c (goT t) := by
 unfold goT
 split
 · split
   · intro h; simp at h
   split
   · intro h; exfalso; revert h; dsimp only; split <;> omega
   · intro h; simp at h
 · intro h; simp at h
theorem walkS_ok {s x : Sl.State} {t : Sl.Thread} {p : Int} (k : KS s x) (hw : t.wf) (hi : P31 s.config t) : SOk s (walkS x t p) := by
 have hwc := k.wc; have hwg := k.wg
 have hct := k.cf
 obtain ⟨h1, h2, h3, h4, h5, h6, h7, h8, h9, h10, h11, h12, h13, h14, h15, h16⟩ := id hw
 have ho1 := h2.1; have ho2 := h2.2.1; have ho3 := h2.2.2; have hr1 := h3.1; have hr2 := h3.2
 have h00 : int64 (at0 x.cells 0) := int64_at0 hwc
 have h01 : int64 (at0 x.cells 1) := int64_at0 hwc
 unfold walkS
 exact kso
theorem readS_ok {s x : Sl.State} {t : Sl.Thread} {p : Int} (k : KS s x) (hw : t.wf) (hi : P31 s.config t) : SOk s (readS x t p) := by
 have hwc := k.wc; have hwg := k.wg
 have hct := k.cf
 obtain ⟨h1, h2, h3, h4, h5, h6, h7, h8, h9, h10, h11, h12, h13, h14, h15, h16⟩ := id hw
 have ho1 := h2.1; have ho2 := h2.2.1; have ho3 := h2.2.2; have hr1 := h3.1; have hr2 := h3.2
 have h00 : int64 (at0 x.cells 0) := int64_at0 hwc
 have h01 : int64 (at0 x.cells 1) := int64_at0 hwc
 unfold readS
 exact kso
theorem takeS_ok {s x : Sl.State} {t : Sl.Thread} {p : Int} (k : KS s x) (hw : t.wf) (hz : 0 ≤ at0 x.cells 1) (hi : P31 s.config t) : SOk s (takeS x t p) := by
 have hwc := k.wc; have hwg := k.wg
 have hct := k.cf
 obtain ⟨h1, h2, h3, h4, h5, h6, h7, h8, h9, h10, h11, h12, h13, h14, h15, h16⟩ := id hw
 have ho1 := h2.1; have ho2 := h2.2.1; have ho3 := h2.2.2; have hr1 := h3.1; have hr2 := h3.2
 have h00 : int64 (at0 x.cells 0) := int64_at0 hwc
 have h01 : int64 (at0 x.cells 1) := int64_at0 hwc
 unfold takeS
 exact kso
theorem headS_ok {s x : Sl.State} {t : Sl.Thread} {p : Int} (k : KS s x) (hw : t.wf) (hi : P31 s.config t) : SOk s (headS x t p) := by
 have hwc := k.wc; have hwg := k.wg
 have hct := k.cf
 obtain ⟨h1, h2, h3, h4, h5, h6, h7, h8, h9, h10, h11, h12, h13, h14, h15, h16⟩ := id hw
 have ho1 := h2.1; have ho2 := h2.2.1; have ho3 := h2.2.2; have hr1 := h3.1; have hr2 := h3.2
 have h00 : int64 (at0 x.cells 0) := int64_at0 hwc
 have h01 : int64 (at0 x.cells 1) := int64_at0 hwc
 unfold headS
 exact kso
theorem ownS_ok {s x : Sl.State} {t : Sl.Thread} {p : Int} (k : KS s x) (hw : t.wf) (hi : P31 s.config t) : SOk s (ownS x t p) := by
 have hwc := k.wc; have hwg := k.wg
 have hct := k.cf
 obtain ⟨h1, h2, h3, h4, h5, h6, h7, h8, h9, h10, h11, h12, h13, h14, h15, h16⟩ := id hw
 have ho1 := h2.1; have ho2 := h2.2.1; have ho3 := h2.2.2; have hr1 := h3.1; have hr2 := h3.2
 have h00 : int64 (at0 x.cells 0) := int64_at0 hwc
 have h01 : int64 (at0 x.cells 1) := int64_at0 hwc
 unfold ownS
 exact kso
theorem scanEndS_ok {s x : Sl.State} {t : Sl.Thread} {p : Int} (k : KS s x) (hw : t.wf) (hi : P31 s.config t) : SOk s (scanEndS x t p) := by
 have hwc := k.wc; have hwg := k.wg
 have hct := k.cf
 obtain ⟨h1, h2, h3, h4, h5, h6, h7, h8, h9, h10, h11, h12, h13, h14, h15, h16⟩ := id hw
 have ho1 := h2.1; have ho2 := h2.2.1; have ho3 := h2.2.2; have hr1 := h3.1; have hr2 := h3.2
 have h00 : int64 (at0 x.cells 0) := int64_at0 hwc
 have h01 : int64 (at0 x.cells 1) := int64_at0 hwc
 unfold scanEndS
 exact kso
theorem foundN_wf {t : Sl.Thread} {n : Int} (h : ∀ x ∈ t.found, int64 x) (hn : int64 n) : ∀ x ∈ foundN t n, int64 x := by
 unfold foundN; split
 · exact h
 · exact all_snoc h hn
theorem splitK_wf {pol key : Int} {es : List Entry} {ns : List Int} (h : ∀ x ∈ es, x.wf) : ∀ x ∈ splitK pol key es ns, x.wf := fun x hx => h x (List.mem_filter.1 hx).1
theorem splitD_wf {pol key : Int} {es : List Entry} {ns : List Int} (h : ∀ x ∈ es, x.wf) : ∀ x ∈ splitD pol key es ns, x.wf := fun x hx => h x (List.mem_filter.1 hx).1
theorem afterT_wf {c : Config} {t : Sl.Thread} (hw : t.wf) : (afterT c t).wf := by
 unfold afterT; split
 · exact wf_clear hw (by unfold int64; omega)
 · exact wf_end hw int64_zero int64_zero
theorem p31_after {c d : Config} {t : Sl.Thread} : P31 c (afterT d t) := by
 unfold afterT; split
 · intro h; unfold clearT at h; simp at h
 · exact p31_end
theorem mergeT_wf {s : Sl.State} {t : Sl.Thread} (hw : t.wf) (hc : ∀ y ∈ s.cells, int64 y) : (mergeT s t).wf := by
 obtain ⟨h1, h2, h3, h4, h5, h6, h7, h8, h9, h10, h11, h12, h13, h14, h15, h16⟩ := hw
 have hf : ∀ x ∈ scanF s t, int64 x := foundN_wf h12 (int64_loadC hc)
 unfold mergeT
 exact ⟨by unfold int64; dsimp only; omega, h2, h3, h4, h5, h6, h7, h8, h9, h10, int64_wrap _, hf, h13, splitK_wf h14, (fun x hx => (List.mem_append.1 hx).elim (h15 x) (splitD_wf h14 x)), h16⟩
theorem scanT_wf {s : Sl.State} {t : Sl.Thread} (hw : t.wf) (hc : ∀ y ∈ s.cells, int64 y) : (scanT s t).wf := by
 unfold scanT; split
 · obtain ⟨h1, h2, h3, h4, h5, h6, h7, h8, h9, h10, h11, h12, h13, h14, h15, h16⟩ := hw
   exact ⟨h1, h2, h3, h4, h5, h6, h7, h8, h9, h10, int64_wrap _, foundN_wf h12 (int64_loadC hc), h13, h14, h15, h16⟩
 split
 · exact afterT_wf (mergeT_wf hw hc)
 · exact mergeT_wf hw hc
theorem p31_scanT {c : Config} {s : Sl.State} {t : Sl.Thread} (h5 : t.pc = 50) : P31 c (scanT s t) := by
 unfold scanT; split
 · intro h; dsimp only at h; omega
 split
 · exact p31_after
 · intro h; unfold mergeT at h; simp at h
theorem flushS_ok {s x : Sl.State} {t : Sl.Thread} {p : Int} (k : KS s x) (hw : t.wf) (hi : P31 s.config t) : SOk s (flushS x t p) := by
 have hwc := k.wc; have hwg := k.wg
 have hct := k.cf
 obtain ⟨h1, h2, h3, h4, h5, h6, h7, h8, h9, h10, h11, h12, h13, h14, h15, h16⟩ := id hw
 have ho1 := h2.1; have ho2 := h2.2.1; have ho3 := h2.2.2; have hr1 := h3.1; have hr2 := h3.2
 have h00 : int64 (at0 x.cells 0) := int64_at0 hwc
 have h01 : int64 (at0 x.cells 1) := int64_at0 hwc
 unfold flushS
 exact kso
theorem freeAll_wf {gs fr hs : List Int} (hg : ∀ x ∈ gs, int64 x) (hf : ∀ x ∈ fr, int64 x) (hh : ∀ x ∈ hs, int64 x) : (∀ x ∈ (freeAll gs fr hs).1, int64 x) ∧ (∀ x ∈ (freeAll gs fr hs).2, int64 x) := by
 unfold freeAll
 induction hs generalizing gs fr with
 | nil => exact ⟨hg, hf⟩
 | cons h hs ih =>
   simp only [List.foldl_cons]
   have h0 := hh h List.mem_cons_self
   have h1 := fun x hx => hh x (List.mem_cons_of_mem _ hx)
   unfold freeStep
   split
   · exact ih (fun x hx => (List.mem_or_eq_of_mem_set hx).elim (hg x) (fun e => e ▸ int64_wrap _)) (all_snoc hf (int64_indexOf h0)) h1
   · exact ih hg hf h1
theorem reclaimS_ok {s x : Sl.State} {t : Sl.Thread} {p : Int} (k : KS s x) (hw : t.wf) (hi : P31 s.config t) : SOk s (reclaimS x t p) := by
 obtain ⟨h1, h2, h3, h4, h5, h6, h7, h8, h9, h10, h11, h12, h13, h14, h15, h16⟩ := id hw
 have hfo : ∀ y ∈ foundN t (scanN x t), int64 y := foundN_wf h12 (int64_loadC k.wc)
 have hfr := freeAll_wf (hs := splitOut t.limbo (foundN t (scanN x t))) k.wg h13 (fun y hy => h16 y (List.mem_filter.1 hy).1)
 unfold reclaimS
 split
 · exact ⟨k, ⟨h1, h2, h3, h4, h5, h6, h7, h8, h9, h10, int64_wrap _, hfo, h13, h14, h15, h16⟩, hi⟩
 · refine ⟨⟨k.cf, k.th, k.lc, ?_, k.wc, hfr.1, k.ws, k.wh, k.wr, k.wf⟩, ?_, ?_⟩
   · exact freeAll_len.trans k.lg
   · obtain ⟨g1, g2, g3, g4, g5, g6, g7, g8, g9, g10, g11, g12, g13, g14, g15, g16⟩ := wf_end hw int64_zero int64_zero
     exact ⟨g1, g2, g3, g4, g5, g6, g7, g8, g9, g10, g11, g12, hfr.2, g14, g15, (fun y hy => h16 y (List.mem_filter.1 hy).1)⟩
   · intro h; unfold endT at h; simp at h
theorem stepS_ok {s x : Sl.State} {t : Sl.Thread} {p : Int} (k : KS s x) (hw : t.wf) (hz : 0 ≤ at0 x.cells 1) (hi : P31 s.config t) : SOk s (stepS x t p) := by
 unfold stepS
 repeat' split
 · exact beginS_ok k hw hi
 · exact walkS_ok k hw hi
 · exact readS_ok k hw hi
 · exact takeS_ok k hw hz hi
 · exact headS_ok k hw hi
 · exact ownS_ok k hw hi
 · exact flushS_ok k hw hi
 · exact reclaimS_ok k hw hi
 · exact scanEndS_ok k hw hi
 · exact ⟨k, hw, hi⟩
end Go.Proofs.YtgofolgogfmhgaaGreat.Wk
namespace Go.Proofs.YtgofolgogfmhgaaGreat.Wk
open Go Go.RowKit Sl
set_option linter.unusedVariables false
set_option linter.unusedSimpArgs false
set_option maxRecDepth 20000
/-- a state that has come of operations begun and of steps -/
structure Good (s : Sl.State) : Prop where
  sh : shapeOk s
  wf : s.wf
  sz : s.size ≤ 2200
  p31 : ∀ t ∈ s.threads, P31 s.config t
theorem crow_mul {α : Type} {c : α → Nat} {xs : List α} {k : Nat} (h : ∀ x ∈ xs, c x ≤ k) : crow c xs ≤ xs.length * k := by
 induction xs with
 | nil => simp [crow]
 | cons x xs ih =>
   have h1 := ih (fun y hy => h y (List.mem_cons_of_mem _ hy))
   have h2 := h x List.mem_cons_self
   simp only [crow, List.length_cons, Nat.add_mul, Nat.one_mul]; omega
theorem ok_size {s : Sl.State} (h : stateOk s = true) : s.size ≤ 2118 := by
 obtain ⟨hok, h1, h2, h3⟩ := stateOk_shape h
 have hcc := cellCount_eq hok
 have hb := hok; unfold Config.ok at hb
 have h4 : crow Sl.Thread.size s.threads ≤ s.threads.length * 500 := crow_mul fun t ht => by
   have g : s.threads.all (threadOk s.config) = true := by unfold stateOk at h; simp only [Bool.and_eq_true] at h; exact h.1.1.1.2
   have g1 := List.all_eq_true.1 g t ht
   unfold threadOk at g1; simp only [Bool.and_eq_true] at g1
   have g2 : sizesOk t := of_decide_eq_true g1.2
   unfold sizesOk at g2
   unfold Sl.Thread.size
   omega
 unfold Sl.State.size
 omega
theorem goT_size' {t : Sl.Thread} : (goT t).size ≤ t.size := by
 unfold goT Sl.Thread.size
 repeat' split
 all_goals ((try simp only [List.length_append, List.length_drop, List.length_cons, List.length_nil]); first | omega | exact Nat.le_refl _)
theorem stepS_len {s : Sl.State} {t : Sl.Thread} {p : Int} : (stepS s t p).2.size ≤ t.size + 1 := by
 have e := @endT_size
 unfold stepS
 repeat' split
 · unfold beginS; repeat' split
   all_goals first | exact Nat.le_succ _ | exact Nat.le_trans (endT_size) (Nat.le_succ _)
 · unfold walkS; repeat' split
   all_goals first | exact Nat.le_succ _ | exact Nat.le_trans (goT_size') (Nat.le_succ _)
 · unfold readS; repeat' split
   all_goals first | exact Nat.le_succ _ | exact Nat.le_trans (endT_size) (Nat.le_succ _)
 · unfold takeS; repeat' split
   all_goals first | exact Nat.le_succ _ | exact Nat.le_trans (endT_size) (Nat.le_succ _)
 · unfold headS; repeat' split
   all_goals exact Nat.le_succ _
 · unfold ownS; repeat' split
   all_goals first | exact Nat.le_succ _ | exact Nat.le_trans (endT_size) (Nat.le_succ _) | (unfold clearT Sl.Thread.size; simp only [List.length_nil, List.length_append, List.length_cons]; omega) | (unfold Sl.Thread.size; simp only [List.length_nil, List.length_append, List.length_cons]; omega)
 · exact (flushS_size s t p).2
 · exact (reclaimS_size s t p).2
 · exact Nat.le_trans (endT_size (t := { t with snapshot := 0 })) (Nat.le_succ _)
 · exact Nat.le_succ _
theorem Good.ks {s : Sl.State} (h : Good s) : KS s s := ⟨rfl, rfl, rfl, rfl, h.wf.2.1, h.wf.2.2.1, h.wf.2.2.2.2.1, h.wf.2.2.2.2.2.1, h.wf.2.2.2.2.2.2.1, h.wf.2.2.2.2.2.2.2⟩
/-- a state in which one thread and what belongs to all has changed -/
theorem good_set {s x : Sl.State} {t : Sl.Thread} {p : Nat} (h : Good s) (hs : s.size ≤ 2118) (k : KS s x) (hw : t.wf) (hi : P31 s.config t) (hp : p < s.threads.length) (hz : t.size ≤ (at0 s.threads (p : Int)).size + 1) : Good { x with threads := s.threads.set p t } := by
 obtain ⟨a1, a2, a3, a4⟩ := h.sh
 have hx : s.threads[p]? = some (at0 s.threads (p : Int)) := at0_nat hp
 refine ⟨⟨?_, ?_, ?_, ?_⟩, ⟨?_, k.wc, k.wg, ?_, k.ws, k.wh, k.wr, k.wf⟩, ?_, ?_⟩ <;> (try dsimp only)
 · rw [k.cf]; exact a1
 · rw [k.cf, k.lc]; exact a2
 · rw [k.cf, k.lg]; exact a3
 · rw [k.cf, List.length_set]; exact a4
 · rw [k.cf]; exact h.wf.1
 · exact fun y hy => (List.mem_or_eq_of_mem_set hy).elim (h.wf.2.2.2.1 y) (fun e => e ▸ hw)
 · have h4 := crow_set_le (c := Sl.Thread.size) (k := 1) hx hz
   show x.cells.length + x.generations.length + ((s.threads.set p t).length + crow Sl.Thread.size (s.threads.set p t)) ≤ 2200
   have e2 : s.size = s.cells.length + s.generations.length + (s.threads.length + crow Sl.Thread.size s.threads) := rfl
   rw [k.lc, k.lg, List.length_set]; omega
 · rw [k.cf]
   exact fun y hy => (List.mem_or_eq_of_mem_set hy).elim (h.p31 y) (fun e => e ▸ hi)
theorem ok_born {s : Sl.State} (h : stateOk s = true) : 0 ≤ at0 s.cells 1 := by
 unfold stateOk at h; simp only [Bool.and_eq_true, decide_eq_true_eq] at h
 have := h.2; unfold countsOk at this; omega
theorem good_step {s : Sl.State} {p : Nat} (h : Good s) (hr : isRunning s (p : Int) = true) : Good (stepBy stepS (stepped s) p) := by
 obtain ⟨hs, h0, h1⟩ := running_of hr
 have hm : at0 s.threads (p : Int) ∈ s.threads := at0_mem (by omega) (by omega)
 obtain ⟨k, hw, hi⟩ := stepS_ok (s := s) (x := stepped s) (p := (p : Int)) h.ks.stepped (h.wf.2.2.2.1 _ hm) (ok_born (s := s) hs) (h.p31 _ hm)
 exact good_set (s := s) h (ok_size hs) k hw hi (by omega) stepS_len
theorem startT_wf {t : Sl.Thread} {o : Sl.Op} {gs : List Int} (hw : t.wf) (ho : o.wf) : (startT t o gs).wf := by
 have hw' : ({ t with op := o } : Sl.Thread).wf := ⟨hw.1, ho, hw.2.2⟩
 obtain ⟨g1, g2, g3, g4, g5, g6, g7, g8, g9, g10, g11, g12, g13, g14, g15, g16⟩ := wf_end hw' int64_zero int64_zero
 unfold startT
 repeat' split
 all_goals first
   | exact ⟨by unfold int64; dsimp only; omega, g2, g3, g4, g5, g6, g7, g8, g9, g10, g11, g12, g13, g14, g15, g16⟩
   | exact ⟨by unfold int64; dsimp only; omega, g2, g3, g4, int64_makeHandle, g6, g7, g8, g9, g10, g11, g12, (fun x hx => g13 x (List.mem_of_mem_take hx)), g14, g15, g16⟩
theorem p31_start {c : Config} {t : Sl.Thread} {o : Sl.Op} {gs : List Int} : P31 c (startT t o gs) := by
 unfold startT
 repeat' split
 all_goals (intro h; simp at h)
theorem refusal_int {s : Sl.State} {p : Int} {o : Sl.Op} : int64 (refusalOf s p o) := by
 unfold refusalOf
 repeat' split
 all_goals (unfold int64; omega)
theorem good_start {s : Sl.State} {p : Int} {o : Sl.Op} (h : Good s) (ho : o.wf) : Good (startS s p o).1 := by
 unfold startS
 split
 · rename_i hc
   obtain ⟨⟨hs, h0, h1⟩, _⟩ := hc
   obtain ⟨p, rfl⟩ : ∃ k : Nat, p = (k : Int) := ⟨p.toNat, by omega⟩
   have hm : at0 s.threads (p : Int) ∈ s.threads := at0_mem (by omega) (by omega)
   have hw := h.wf.2.2.2.1 _ hm
   split
   · exact good_set (p := p) h (ok_size hs) h.ks (startT_wf hw ho) p31_start (by omega) (Nat.le_trans startT_size (Nat.le_succ _))
   · exact good_set (p := p) h (ok_size hs) h.ks (wf_end (t := { at0 s.threads (p : Int) with op := o }) ⟨hw.1, ho, hw.2.2⟩ refusal_int int64_zero) p31_end (by omega) (Nat.le_trans endT_size (Nat.le_succ _))
 · exact h
end Go.Proofs.YtgofolgogfmhgaaGreat.Wk
namespace Go.Proofs.YtgofolgogfmhgaaGreat.Wk
open Go Go.RowKit Sl
set_option linter.unusedVariables false
set_option linter.unusedSimpArgs false
set_option maxRecDepth 20000
def stepAll (s : Sl.State) (p : Int) : Sl.State × Bool := if isRunning s p = true then (stepBy stepS (stepped s) p.toNat, true) else (s, false)
theorem specStep_c {W : World} {s : Sl.State} {cs : List Value} {p : Int} (hm : stateEK.K W s cs) (hw : s.wf) (hz : (s.size : Int) ≤ 1048576) (hp0 : int64 p) : Calls Tryz.prog 25 #[.agg cs.toArray, vi p] W (Ret (Mk W (fun vs => .tuple #[.agg (stateEK.cells (stepAll s p).1 vs).toArray, .bool (stepAll s p).2]) (fun vs => [Part stateEK (stepAll s p).1 vs]))) := by
 refine calls_fr Tryz.func25 rfl Tryz.ntmps25 rfl ?_
 intro a hF
 have hS := Sep.refl W
 obtain ⟨v0, v1, v2, rfl, r0, r1, r2⟩ := hm
 have hm : stateEK.K W s (s.encv v0 v1 v2) := ⟨_, _, _, rfl, r0, r1, r2⟩
 obtain ⟨A_a, q_a, rfl, hq_a, hn_a⟩ := r0.sl; unfold maxLen at hn_a
 obtain ⟨A_b, q_b, rfl, hq_b, hn_b⟩ := r1.sl; unfold maxLen at hn_b
 obtain ⟨A_c, q_c, rfl, hq_c, hn_c⟩ := r2.sl; unfold maxLen at hn_c
 refine ws fun K1 hK1 => ?_
 refine wl_box (cs := [_, _, _, _, _, _, _, _, _, _, _, _, _]) hF hS rfl (hF.ev rfl) rfl fun g1 w1 a hS _ hF => ?_
 refine wl_alloc hF hS rfl zr29 fun g2 w2 a hS _ hF => ?_
 refine ge hK1 hF rfl fun a hF => ?_
 refine ws fun K2 hK2 => ?_
 refine gb 1 1 hF hS rfl rfl rfl fun a hF => ?_
 refine wl_mk hF hS rfl rfl rfl (r_call1 en44 (hF.ev rfl)) (l8Copy_c (hS.k hm) (by omega)) ?_; rintro vs8 w3 a hS_ hF; replace hS := hS_; clear hS_; dsimp only [List.cons_append, List.nil_append] at hS
 refine wl_alloc hF hS rfl zr29 fun g3 w4 a hS _ hF => ?_
 refine ww 0 hF hS rfl rfl rfl rfl rfl rfl fun w5 hS => ?_
 refine wl_nil (hK2 _ _ ?_)
 refine wp_seq_k fun K3 hK3 => ?_
 refine ws fun K4 hK4 => ?_
 refine gb 2 3 hF hS rfl rfl rfl fun a hF => ?_
 refine ckr hF hS rfl (specIsRunning_c (hS.k hm) hw hz hp0) fun w6 a hS hF => ?_
 refine ge hK4 hF rfl fun a hF => ?_
 refine cx 12 hF rfl (fun c12 hF => ?_) fun c12 hF => ?_
 ·
  refine ws fun K5 hK5 => ?_
  refine gb 1 0 hF hS rfl rfl rfl fun a hF => ?_
  refine ww 2 hF hS rfl rfl rfl rfl rfl rfl fun w7 hS => ?_
  refine ge hK5 hF rfl fun a hF => ?_
  refine wp_ret ?_
  refine xt ?_
  have e : stepAll s p = (s, false) := if_neg (fun h => by rw [h] at c12; cases c12)
  refine ret2c rfl ag29 hF hS (i := 2) rfl sz29 rfl rfl ⟨vs8, ?_, ?_⟩
  · rw [e] <;> rfl
  · rw [e]; exact hS.pick [1] (by decide) rfl
 obtain ⟨hso, hp1⟩ := running_of c12
 obtain ⟨p, rfl⟩ : ∃ k : Nat, p = (k : Int) := ⟨p.toNat, by omega⟩
 have hp : p < s.threads.length := by omega
 have hxt := at0_nat hp
 replace hS := hS.pull (p := 1) rfl; dsimp only [List.eraseIdx] at hS
 replace hS : Sep W (Own intEK (sv (vs8.getD 0 (none, 0, 0))) s.cells :: Own intEK (sv (vs8.getD 1 (none, 0, 0))) s.generations :: Own threadEK (sv (vs8.getD 2 (none, 0, 0))) s.threads :: _) _ := hS.part_open
 dsimp only [stateEK] at hS
 generalize vs8.getD 0 (none, 0, 0) = z0 at hS
 generalize vs8.getD 1 (none, 0, 0) = z1 at hS
 generalize vs8.getD 2 (none, 0, 0) = z2 at hS
 obtain ⟨gt, ot, mt, ct, rfl⟩ := hS.elt_form (q := 2) rfl hxt
 have hmt : mt = s.threads.length := hS.own_len (q := 2) (s := (some ⟨gt, ot, none⟩, mt, ct)) rfl
 replace hS := hS.set_form (q := 2) rfl hxt; dsimp only [List.set] at hS
 refine wp_skip ?_
 refine hK3 _ _ ?_
 refine ws fun K6 hK6 => ?_
 refine ga 1 hF rfl fun a hF => ?_
 replace hS := Sep.headp (A := [_, _, _, _, _, _]) (B := [_, _, _, _, _, _]) hS [3, 0, 1, 2, 4, 5] (by decide) rfl rfl
 refine ck hF rfl (l17Step_c (s := s) hp (Fit.of hso hw hp) hS) ?_; rintro v w8 a ⟨rfl, hS⟩ hF
 refine wl_nil (hK6 _ _ ?_)
 refine ws fun K7 hK7 => ?_
 refine gb 1 0 hF hS rfl rfl rfl fun a hF => ?_
 refine ww 4 hF hS rfl rfl rfl rfl rfl rfl fun w9 hS => ?_
 refine ge hK7 hF rfl fun a hF => ?_
 refine wp_ret ?_
 refine xt ?_
 have e : stepAll s (p : Int) = (stepBy stepS (stepped s) p, true) := if_pos c12
 refine ret2c rfl ag29 hF hS (i := 4) rfl sz29 rfl rfl ⟨[z0, z1, (some ⟨gt, ot, none⟩, mt, ct)], ?_, ?_⟩
 · rw [e] <;> rfl
 · rw [e]; exact hS.part_of [1, 2, 3] (by decide) rfl
theorem specStepMany_c {W : World} {s : Sl.State} {cs : List Value} {p n : Int} (hm : stateEK.K W s cs) (hg : Good s) (hp0 : int64 p) : Calls Tryz.prog 160 #[.agg cs.toArray, vi p, vi n] W (Ret (Mk W (fun z : {z : Sl.State × List Slv × Int // Good z.1} => .tuple #[.agg (stateEK.cells z.1.1 z.1.2.1).toArray, vi z.1.2.2]) (fun z => [Part stateEK z.1.1 z.1.2.1]))) := by
 refine calls_fr Tryz.func160 rfl Tryz.ntmps160 rfl ?_
 intro a hF
 have hS := Sep.refl W
 obtain ⟨v0, v1, v2, rfl, r0, r1, r2⟩ := hm
 have hm : stateEK.K W s (s.encv v0 v1 v2) := ⟨_, _, _, rfl, r0, r1, r2⟩
 obtain ⟨A_a, q_a, rfl, hq_a, hn_a⟩ := r0.sl; unfold maxLen at hn_a
 obtain ⟨A_b, q_b, rfl, hq_b, hn_b⟩ := r1.sl; unfold maxLen at hn_b
 obtain ⟨A_c, q_c, rfl, hq_c, hn_c⟩ := r2.sl; unfold maxLen at hn_c
 have hzg : s.size ≤ 2200 := hg.sz
 refine ws fun K1 hK1 => ?_
 refine wl_box (cs := [_, _, _, _, _, _, _, _, _, _, _, _, _]) hF hS rfl (hF.ev rfl) rfl fun g1 w1 a hS _ hF => ?_
 refine wl_alloc hF hS rfl zr29 fun g2 w2 a hS _ hF => ?_
 refine ge hK1 hF rfl fun a hF => ?_
 refine ws fun K2 hK2 => ?_
 refine gb 1 1 hF hS rfl rfl rfl fun a hF => ?_
 refine wl_mk hF hS rfl rfl rfl (r_call1 en44 (hF.ev rfl)) (l8Copy_c (hS.k hm) (by omega)) ?_; rintro vs11 w3 a hS_ hF; replace hS := hS_; clear hS_; dsimp only [List.cons_append, List.nil_append] at hS
 refine wl_alloc hF hS rfl zr29 fun g3 w4 a hS _ hF => ?_
 refine ww 0 hF hS rfl rfl rfl rfl rfl rfl fun w5 hS => ?_
 refine wl_nil (hK2 _ _ ?_)
 refine rg hF rfl fun a hF => ?_
 refine wp_seq_k fun K4 hK4 => ?_
 refine wp_block ?_
 replace hS := hS.pull (p := 1) rfl; dsimp only [List.eraseIdx] at hS
 replace hS := hS.pull (p := 1) rfl; dsimp only [List.eraseIdx] at hS
 have hL_ := (((((hF.nil.keep hF (t := 8) rfl).keep hF (t := 7) rfl).keep hF (t := 6) rfl).keep hF (t := 2) rfl).keep hF (t := 1) rfl)
 refine wp_loop_m (σ := Nat × Sl.State × List Slv) (fun z L_ => (9, vi z.1) :: L_) (fun z l_ => (Box g3 (stateEK.cells z.2.1 z.2.2)) :: (Part stateEK z.2.1 z.2.2) :: l_) (fun z => (Good z.2.1) ∧ (z.1 ≤ 2000)) (fun z => 2000 - z.1) (0, s, vs11) (hS) (hL_.keepE hF (t := 9) rfl rfl) ?_ ?_
 · exact ⟨hg, by dsimp only; omega⟩
 rintro ⟨k, x, vs⟩ a w6 ⟨hgx, hk⟩ hS hF; try dsimp only at hF; try dsimp only at hS; try dsimp only at hgx; try dsimp only at hk
 refine wp_seq_k fun K5 hK5 => ?_
 refine ws fun K6 hK6 => ?_
 refine ga 4 hF rfl fun a hF => ?_
 apply wa 3 15 18 hF hS
 ·
  intro hg15 a hF
  exact je 3 hF hS rfl rfl rfl rfl
 intro a w7 hF hS
 refine ga 1 hF rfl fun a hF => ?_
 apply wa 4 19 23 hF hS
 ·
  intro hg19 a hF
  refine gb 2 0 hF hS rfl rfl rfl fun a hF => ?_
  refine ckr hF hS rfl (specIsRunning_c (hS.part_k (i := 1) rfl) hgx.wf (by have := hgx.sz; omega) hp0) fun w8 a hS hF => ?_
  exact je 4 hF hS rfl rfl rfl rfl
 intro a w9 hF hS
 refine wl_nil (hK6 _ _ ?_)
 refine cx 23 hF rfl (fun c23 hF => ?_) fun c23 hF => ?_
 ·
  obtain ⟨hso, hp1⟩ := running_of c23.2
  obtain ⟨p, rfl⟩ : ∃ k_ : Nat, p = (k_ : Int) := ⟨p.toNat, by omega⟩
  have hp : p < (x).threads.length := by omega
  have hxt := at0_nat hp
  replace hS := hS.pull (p := 1) rfl; dsimp only [List.eraseIdx] at hS
  replace hS : Sep W (Own intEK (sv (vs.getD 0 (none, 0, 0))) (x).cells :: Own intEK (sv (vs.getD 1 (none, 0, 0))) (x).generations :: Own threadEK (sv (vs.getD 2 (none, 0, 0))) (x).threads :: _) _ := hS.part_open
  dsimp only [stateEK] at hS
  generalize vs.getD 0 (none, 0, 0) = z0 at hS
  generalize vs.getD 1 (none, 0, 0) = z1 at hS
  generalize vs.getD 2 (none, 0, 0) = z2 at hS
  obtain ⟨gt, ot, mt, ct, rfl⟩ := hS.elt_form (q := 2) rfl hxt
  have hmt : mt = (x).threads.length := hS.own_len (q := 2) (s := (some ⟨gt, ot, none⟩, mt, ct)) rfl
  replace hS := hS.set_form (q := 2) rfl hxt; dsimp only [List.set] at hS
  refine wp_skip ?_
  refine hK5 _ _ ?_
  refine wp_block ?_
  refine ws fun K7 hK7 => ?_
  refine ga 1 hF rfl fun a hF => ?_
  replace hS := Sep.headp (A := [_, _, _, _, _, _]) (B := [_, _, _, _, _, _]) hS [3, 0, 1, 2, 4, 5] (by decide) rfl rfl
  refine ck hF rfl (l17Step_c (s := x) hp (Fit.of hso hgx.wf hp) hS) ?_; rintro v w10 a ⟨rfl, hS⟩ hF
  refine wl_nil (hK7 _ _ ?_)
  refine rl hF rfl fun a hF => ?_
  refine xt ?_
  try dsimp only [List.append] at hS
  replace hS := hS.pull (p := 3) rfl; dsimp only [List.eraseIdx] at hS
  replace hS := hS.pull (p := 3) rfl; dsimp only [List.eraseIdx] at hS
  replace hS := hS.pull (p := 3) rfl; dsimp only [List.eraseIdx] at hS
  replace hS := Sep.part_mk (ek := stateEK) (x := stepBy stepS (stepped x) p) (vs := [z0, z1, (some ⟨gt, ot, none⟩, mt, ct)]) hS rfl
  refine ⟨(k + 1, stepBy stepS (stepped x) p, [z0, z1, (some ⟨gt, ot, none⟩, mt, ct)]), ⟨good_step hgx c23.2, by dsimp only; omega⟩, (hS.pick [1, 0, 2, 3] (by decide) rfl), ((((((hF.nil.keep hF (t := 8) rfl).keep hF (t := 7) rfl).keep hF (t := 6) rfl).keep hF (t := 2) rfl).keep hF (t := 1) rfl).keepE hF (t := 9) rfl (wk (by omega))), by dsimp only; omega⟩
 refine wp_exit ?_
 refine xt ?_
 refine hK4 _ _ ?_
 refine ws fun K8 hK8 => ?_
 refine gb 2 0 hF hS rfl rfl rfl fun a hF => ?_
 refine ww 2 hF hS rfl rfl rfl rfl rfl rfl fun w11 hS => ?_
 refine ge hK8 hF rfl fun a hF => ?_
 refine wp_ret ?_
 refine xt ?_
 exact ret2c rfl ag29 hF hS (i := 2) rfl sz29 rfl rfl ⟨⟨(x, vs, _), hgx⟩, rfl, hS.pick [1] (by decide) rfl⟩
end Go.Proofs.YtgofolgogfmhgaaGreat.Wk
namespace Go.Proofs.YtgofolgogfmhgaaGreat.Wk
open Go Go.RowKit Sl
set_option linter.unusedVariables false
set_option linter.unusedSimpArgs false
set_option maxRecDepth 20000
theorem l1Byte_h {W : World} {g : Nat} {vb : Value} {bs : List Int} (hbs : byteEK.Rd W vb bs) {l : List Res} {w : World} (hS : Sep W (Cur g vb bs.length :: l) w) : Calls Tryz.prog 145 #[.pointer (some ⟨g, 0, none⟩)] w (Ret fun v w' => (∃ x : Int, v = vi x ∧ 0 ≤ x ∧ x ≤ 255) ∧ Sep W (Cur g vb bs.length :: l) w') := by
 refine calls_fr Tryz.func145 rfl Tryz.ntmps145 rfl ?_
 intro a hF
 obtain ⟨i, k, hi, hS⟩ := hS.cur_open
 obtain ⟨A_b, q_b, rfl, hq_b, hn_b⟩ := hbs.sl; unfold maxLen at hn_b
 refine rg hF rfl fun a hF => ?_
 refine ws fun K2 hK2 => ?_
 refine gb 9 0 hF hS rfl rfl rfl fun a hF => ?_
 refine wv 0 hF hS rfl rfl rfl rfl rfl rfl fun w1 hS => ?_
 refine wl_nil (hK2 _ _ ?_)
 refine wp_seq_k fun K3 hK3 => ?_
 refine wp_region_calm (by kernel_rfl) (by kernel_rfl) ?_
 refine qb 4 0 hF tk hS rfl rfl rfl fun a hF => ?_
 refine wq hF rfl rfl rfl (fun w_ hB_ => r_shr (by decide) (hF.ev rfl) ec) fun a hF => ?_
 refine qb 4 0 hF tk hS rfl rfl rfl fun a hF => ?_
 refine wq hF rfl rfl rfl (fun w_ hB_ => r_shr (by decide) (hF.ev rfl) ec) fun a hF => ?_
 refine wq hF rfl rfl rfl (fun w_ hB_ => r_xor (hF.ev rfl) (hF.ev rfl)) fun a hF => ?_
 refine wq hF rfl rfl rfl (fun w_ hB_ => r_and (hF.ev rfl) ec) fun a hF => ?_
 refine qa 1 hF tk rfl fun a hF => ?_
 refine wpQuiet_nil ?_; intro w2 hB_; have hS := hS.ext hB_
 refine hK3 _ _ ?_
 refine wp_seq_k fun K4 hK4 => ?_
 refine wp_seq_k fun K5 hK5 => ?_
 refine wp_region_calm (by kernel_rfl) (by kernel_rfl) ?_
 refine qb 10 0 hF tk hS rfl rfl rfl fun a hF => ?_
 refine wpQuiet_nil ?_; intro w3 hB_; have hS := hS.ext hB_
 refine hK5 _ _ ?_
 refine cx 34 hF rfl (fun c34 hF => ?_) fun c34 hF => ?_
 ·
  refine wp_seq_k fun K6 hK6 => ?_
  refine wp_region_calm (by kernel_rfl) (by kernel_rfl) ?_
  refine qb 9 0 hF tk hS rfl rfl rfl fun a hF => ?_
  obtain ⟨g44, o44, m44, q44, hv44, hm44, hl44, hc44⟩ := Rd.atF (hbs) (a := a) (X := .tmp 43) (hF.ev rfl) (by omega) (by omega)
  refine wq hF rfl rfl rfl (fun w_ hB_ => r_index sl22 ((hF.ev rfl).trans hv44) (hF.ev rfl) (by omega) (by first | omega | (simp at hm44; omega))) fun a hF => ?_
  refine wq hF rfl rfl rfl (fun w_ hB_ => r_load1 sc5 (hF.ev rfl) (cellB (hS.ext hB_).old (hc44 0 _ rfl))) fun a hF => ?_
  refine wq hF rfl rfl rfl (fun w_ hB_ => r_convw iu5 iu3 (hF.ev rfl)) fun a hF => ?_
  refine qa 1 hF tk rfl fun a hF => ?_
  refine wq hF rfl rfl rfl (fun w_ hB_ => r_and (hF.ev rfl) ec) fun a hF => ?_
  refine qa 1 hF tk rfl fun a hF => ?_
  refine wpQuiet_nil ?_; intro w4 hB_; have hS := hS.ext hB_
  refine hK6 _ _ ?_
  refine wp_region_lit ?_
  refine gb 8 0 hF hS rfl rfl rfl fun a hF => ?_
  refine wv 0 hF hS rfl rfl rfl rfl rfl rfl fun w5 hS => ?_
  refine wl_nil (hK4 _ _ ?_)
  refine rg hF rfl fun a hF => ?_
  refine wp_ret ?_
  refine xt ?_
  refine ret1 rfl hF rfl ⟨⟨_, rfl, (and_low (n := 255) (by decide)).1, (and_low (n := 255) (by decide)).2⟩, ?_⟩
  exact hS.cur_close (by first | omega | (rw [w64_id (by omega) (by omega)]; omega))
 refine wp_skip ?_
 refine hK4 _ _ ?_
 refine rg hF rfl fun a hF => ?_
 refine wp_ret ?_
 refine xt ?_
 refine ret1 rfl hF rfl ⟨⟨_, rfl, (and_low (n := 255) (by decide)).1, (and_low (n := 255) (by decide)).2⟩, ?_⟩
 exact hS.cur_close (by first | omega | (rw [w64_id (by omega) (by omega)]; omega))
theorem l1Byte_c {W : World} {g : Nat} {vb : Value} {bs : List Int} (hbs : byteEK.Rd W vb bs) {l : List Res} {w : World} {q : Nat} (hS : Sep W l w) (hq : l[q]? = some (Cur g vb bs.length)) : Calls Tryz.prog 145 #[.pointer (some ⟨g, 0, none⟩)] w (Ret fun v w' => (∃ x : Int, v = vi x ∧ 0 ≤ x ∧ x ≤ 255) ∧ Sep W l w') :=
  draw_at (R := fun v => ∃ x : Int, v = vi x ∧ 0 ≤ x ∧ x ≤ 255) (fun _ _ h => l1Byte_h hbs h ) hS hq
theorem l1Below_h {W : World} {g : Nat} {vb : Value} {bs : List Int} (hbs : byteEK.Rd W vb bs) {l : List Res} {w : World} (hS : Sep W (Cur g vb bs.length :: l) w) (n : Int) : Calls Tryz.prog 83 #[.pointer (some ⟨g, 0, none⟩), vi n] w (Ret fun v w' => (∃ x : Int, v = vi x ∧ 0 ≤ x ∧ (x < n ∨ (n ≤ 0 ∧ x = 0))) ∧ Sep W (Cur g vb bs.length :: l) w') := by
 refine calls_fr Tryz.func83 rfl Tryz.ntmps83 rfl ?_
 intro a hF
 refine rg hF rfl fun a hF => ?_
 refine wp_seq_k fun K2 hK2 => ?_
 refine rg hF rfl fun a hF => ?_
 refine cx 10 hF rfl (fun c10 hF => ?_) fun c10 hF => ?_
 ·
  refine rg hF rfl fun a hF => ?_
  refine wp_ret ?_
  refine xt ?_
  first
    | exact ret1 rfl hF rfl ⟨⟨0, rfl, by omega, by omega⟩, hS⟩
    | exact ret1 rfl hF rfl ⟨⟨_, rfl, Int.tmod_nonneg _ (by omega), .inl (Int.tmod_lt_of_pos _ (by omega))⟩, hS⟩
    | exact ret1 rfl hF rfl ⟨⟨_, rfl, Int.tmod_nonneg _ (four_bytes h18 h20 h22 h24), .inl (Int.tmod_lt_of_pos _ (by omega))⟩, hS⟩
 refine wp_skip ?_
 refine hK2 _ _ ?_
 refine wp_seq_k fun K5 hK5 => ?_
 refine rg hF rfl fun a hF => ?_
 refine cx 12 hF rfl (fun c12 hF => ?_) fun c12 hF => ?_
 ·
  refine ws fun K7 hK7 => ?_
  refine ga 1 hF rfl fun a hF => ?_
  refine ck hF rfl (l1Byte_c hbs (q := 0) hS rfl) ?_; rintro v w1 a ⟨⟨x14, rfl, h14⟩, hS⟩ hF
  refine ga 1 hF rfl fun a hF => ?_
  refine wl hF rfl rfl rfl (r_rem (by first | decide | omega) (hF.ev rfl) (hF.ev rfl)) fun a hF => ?_
  refine ge hK7 hF rfl fun a hF => ?_
  refine wp_ret ?_
  refine xt ?_
  first
    | exact ret1 rfl hF rfl ⟨⟨0, rfl, by omega, by omega⟩, hS⟩
    | exact ret1 rfl hF rfl ⟨⟨_, rfl, Int.tmod_nonneg _ (by omega), .inl (Int.tmod_lt_of_pos _ (by omega))⟩, hS⟩
    | exact ret1 rfl hF rfl ⟨⟨_, rfl, Int.tmod_nonneg _ (four_bytes h18 h20 h22 h24), .inl (Int.tmod_lt_of_pos _ (by omega))⟩, hS⟩
 refine wp_skip ?_
 refine hK5 _ _ ?_
 refine ws fun K8 hK8 => ?_
 refine ga 1 hF rfl fun a hF => ?_
 refine ck hF rfl (l1Byte_c hbs (q := 0) hS rfl) ?_; rintro v w2 a ⟨⟨x18, rfl, h18⟩, hS⟩ hF
 refine ge hK8 hF rfl fun a hF => ?_
 refine ws fun K9 hK9 => ?_
 refine ga 1 hF rfl fun a hF => ?_
 refine ck hF rfl (l1Byte_c hbs (q := 0) hS rfl) ?_; rintro v w3 a ⟨⟨x20, rfl, h20⟩, hS⟩ hF
 refine ge hK9 hF rfl fun a hF => ?_
 refine ws fun K10 hK10 => ?_
 refine ga 1 hF rfl fun a hF => ?_
 refine ck hF rfl (l1Byte_c hbs (q := 0) hS rfl) ?_; rintro v w4 a ⟨⟨x22, rfl, h22⟩, hS⟩ hF
 refine ge hK10 hF rfl fun a hF => ?_
 refine ws fun K11 hK11 => ?_
 refine ga 1 hF rfl fun a hF => ?_
 refine ck hF rfl (l1Byte_c hbs (q := 0) hS rfl) ?_; rintro v w5 a ⟨⟨x24, rfl, h24⟩, hS⟩ hF
 refine ge hK11 hF rfl fun a hF => ?_
 refine ws fun K12 hK12 => ?_
 refine ga 11 hF rfl fun a hF => ?_
 refine wl hF rfl rfl rfl (r_rem (by first | decide | omega) (hF.ev rfl) (hF.ev rfl)) fun a hF => ?_
 refine ge hK12 hF rfl fun a hF => ?_
 refine wp_ret ?_
 refine xt ?_
 first
   | exact ret1 rfl hF rfl ⟨⟨0, rfl, by omega, by omega⟩, hS⟩
   | exact ret1 rfl hF rfl ⟨⟨_, rfl, Int.tmod_nonneg _ (by omega), .inl (Int.tmod_lt_of_pos _ (by omega))⟩, hS⟩
   | exact ret1 rfl hF rfl ⟨⟨_, rfl, Int.tmod_nonneg _ (four_bytes h18 h20 h22 h24), .inl (Int.tmod_lt_of_pos _ (by omega))⟩, hS⟩
theorem l1Below_c {W : World} {g : Nat} {vb : Value} {bs : List Int} (hbs : byteEK.Rd W vb bs) {l : List Res} {w : World} {q : Nat} (n : Int) (hS : Sep W l w) (hq : l[q]? = some (Cur g vb bs.length)) : Calls Tryz.prog 83 #[.pointer (some ⟨g, 0, none⟩), vi n] w (Ret fun v w' => (∃ x : Int, v = vi x ∧ 0 ≤ x ∧ (x < n ∨ (n ≤ 0 ∧ x = 0))) ∧ Sep W l w') :=
  draw_at (R := fun v => ∃ x : Int, v = vi x ∧ 0 ≤ x ∧ (x < n ∨ (n ≤ 0 ∧ x = 0))) (fun _ _ h => l1Below_h hbs h n) hS hq
theorem l1Once_h {W : World} {g : Nat} {vb : Value} {bs : List Int} (hbs : byteEK.Rd W vb bs) {l : List Res} {w : World} (hS : Sep W (Cur g vb bs.length :: l) w) (n : Int) : Calls Tryz.prog 101 #[.pointer (some ⟨g, 0, none⟩), vi n] w (Ret fun v w' => (∃ b : Bool, v = .bool b) ∧ Sep W (Cur g vb bs.length :: l) w') := by
 refine calls_fr Tryz.func101 rfl Tryz.ntmps101 rfl ?_
 intro a hF
 refine rg hF rfl fun a hF => ?_
 refine ws fun K2 hK2 => ?_
 refine ga 2 hF rfl fun a hF => ?_
 refine ck hF rfl (l1Below_c hbs (q := 0) _ hS rfl) ?_; rintro v w1 a ⟨⟨x7, rfl, h7⟩, hS⟩ hF
 refine ge hK2 hF rfl fun a hF => ?_
 refine wp_ret ?_
 refine xt ?_
 exact ret1 rfl hF rfl ⟨⟨_, rfl⟩, hS⟩
theorem l1Once_c {W : World} {g : Nat} {vb : Value} {bs : List Int} (hbs : byteEK.Rd W vb bs) {l : List Res} {w : World} {q : Nat} (n : Int) (hS : Sep W l w) (hq : l[q]? = some (Cur g vb bs.length)) : Calls Tryz.prog 101 #[.pointer (some ⟨g, 0, none⟩), vi n] w (Ret fun v w' => (∃ b : Bool, v = .bool b) ∧ Sep W l w') :=
  draw_at (R := fun v => ∃ b : Bool, v = .bool b) (fun _ _ h => l1Once_h hbs h n) hS hq
theorem l1PickInt_h {W : World} {g : Nat} {vb : Value} {bs : List Int} (hbs : byteEK.Rd W vb bs) {l : List Res} {w : World} {vx : Value} {xs : List Int} (hx : ∀ w, Sep W (Cur g vb bs.length :: l) w → intEK.Rd w vx xs) (h0 : 0 < xs.length) (hS : Sep W (Cur g vb bs.length :: l) w) : Calls Tryz.prog 85 #[.pointer (some ⟨g, 0, none⟩), vx] w (Ret fun v w' => (∃ x : Int, v = vi x ∧ x ∈ xs) ∧ Sep W (Cur g vb bs.length :: l) w') := by
 refine calls_fr Tryz.func85 rfl Tryz.ntmps85 rfl ?_
 intro a hF
 obtain ⟨A_x, q_x, rfl, hq_x, hn_x⟩ := (hx _ hS).sl; unfold maxLen at hn_x
 refine rg hF rfl fun a hF => ?_
 refine ws fun K2 hK2 => ?_
 refine ga 4 hF rfl fun a hF => ?_
 refine ck hF rfl (l1Below_c hbs (q := 0) _ hS rfl) ?_; rintro v w1 a ⟨⟨x9, rfl, h9⟩, hS⟩ hF
 obtain ⟨g10, o10, m10, q10, hv10, hm10, hl10, hc10⟩ := Rd.atF ((hx _ hS)) (a := a) (X := .tmp 9) (hF.ev rfl) (by omega) (by omega)
 refine wl hF rfl rfl rfl (r_index sl26 ((hF.ev rfl).trans hv10) (hF.ev rfl) (by omega) (by first | omega | (simp at hm10; omega))) fun a hF => ?_
 refine wl hF rfl rfl rfl (r_load1 sc3 (hF.ev rfl) (hc10 0 _ rfl)) fun a hF => ?_
 refine ge hK2 hF rfl fun a hF => ?_
 refine wp_ret ?_
 refine xt ?_
 exact ret1 rfl hF rfl ⟨⟨_, rfl, at0_mem (by omega) (by omega)⟩, hS⟩
theorem l1PickInt_c {W : World} {g : Nat} {vb : Value} {bs : List Int} (hbs : byteEK.Rd W vb bs) {l : List Res} {w : World} {q : Nat} {vx : Value} {xs : List Int} (hx : ∀ w, Sep W l w → intEK.Rd w vx xs) (h0 : 0 < xs.length) (hS : Sep W l w) (hq : l[q]? = some (Cur g vb bs.length)) : Calls Tryz.prog 85 #[.pointer (some ⟨g, 0, none⟩), vx] w (Ret fun v w' => (∃ x : Int, v = vi x ∧ x ∈ xs) ∧ Sep W l w') := by
 refine (l1PickInt_h hbs (fun w_ h_ => hx w_ (h_.unpull hq)) h0 (hS.pull hq)).mono ?_
 rintro e w' ⟨v, rfl, hr, h⟩
 exact ⟨v, rfl, hr, h.unpull hq⟩
theorem l3Config_h {W : World} {g : Nat} {vb : Value} {bs : List Int} (hbs : byteEK.Rd W vb bs) {l : List Res} {w : World} (hS : Sep W (Cur g vb bs.length :: l) w) : Calls Tryz.prog 159 #[.pointer (some ⟨g, 0, none⟩)] w (Ret fun v w' => (∃ c : Config, v = .agg c.enc.toArray ∧ c.ok) ∧ Sep W (Cur g vb bs.length :: l) w') := by
 refine calls_fr Tryz.func159 rfl Tryz.ntmps159 rfl ?_
 intro a hF
 refine ws fun K1 hK1 => ?_
 refine wl_alloc hF hS rfl zr25 fun g1 w1 a hS _ hF => ?_
 refine wl_nil (hK1 _ _ ?_)
 refine ws fun K2 hK2 => ?_
 refine ga 1 hF rfl fun a hF => ?_
 refine ck hF rfl (l1Below_c hbs (q := 1) _ hS rfl) ?_; rintro v w2 a ⟨⟨x5, rfl, h5⟩, hS⟩ hF
 refine ga 2 hF rfl fun a hF => ?_
 refine ck hF rfl (l1Below_c hbs (q := 1) _ hS rfl) ?_; rintro v w3 a ⟨⟨x8, rfl, h8⟩, hS⟩ hF
 refine ga 2 hF rfl fun a hF => ?_
 refine wl_bslice intEK [vi 3, vi 6, vi 8, vi 12] [3, 6, 8, 12] rfl hF hS rfl mk26 rfl ⟨rfl, ec, rfl, ec, rfl, ec, rfl, ec, trivial⟩ rfl rfl rfl rfl fun gl_11 w4 a hS hF => ?_
 refine ck hF rfl (l1PickInt_c hbs (q := 2) (fun w_ hS => (hS.own_rd (i := 0) rfl)) (by decide) hS rfl) ?_; rintro v w5 a ⟨⟨x12, rfl, h12⟩, hS⟩ hF
 refine ga 1 hF rfl fun a hF => ?_
 refine ck hF rfl (l1Below_c hbs (q := 2) _ hS rfl) ?_; rintro v w6 a ⟨⟨x14, rfl, h14⟩, hS⟩ hF
 refine ga 2 hF rfl fun a hF => ?_
 refine ck hF rfl (l1Below_c hbs (q := 2) _ hS rfl) ?_; rintro v w7 a ⟨⟨x17, rfl, h17⟩, hS⟩ hF
 refine ga 1 hF rfl fun a hF => ?_
 refine wl_bslice intEK [vi 99, vi 99, vi 99, vi 4] [99, 99, 99, 4] rfl hF hS rfl mk26 rfl ⟨rfl, ec, rfl, ec, rfl, ec, rfl, ec, trivial⟩ rfl rfl rfl rfl fun gl_19 w8 a hS hF => ?_
 refine ck hF rfl (l1PickInt_c hbs (q := 3) (fun w_ hS => (hS.own_rd (i := 0) rfl)) (by decide) hS rfl) ?_; rintro v w9 a ⟨⟨x20, rfl, h20⟩, hS⟩ hF
 refine wl hF rfl rfl rfl (r_build (bd25_0_1_2_3_4_5 _ _ _ _ _ _) ⟨rfl, (hF.ev rfl), rfl, (hF.ev rfl), rfl, (hF.ev rfl), rfl, (hF.ev rfl), rfl, (hF.ev rfl), rfl, (hF.ev rfl), trivial⟩) fun a hF => ?_
 refine wl_alloc hF hS rfl zr25 fun g2 w10 a hS _ hF => ?_
 refine ww 0 hF hS rfl rfl rfl rfl rfl rfl fun w11 hS => ?_
 refine wl_nil (hK2 _ _ ?_)
 refine ws fun K3 hK3 => ?_
 refine gb 1 0 hF hS rfl rfl rfl fun a hF => ?_
 refine ww 3 hF hS rfl rfl rfl rfl rfl rfl fun w12 hS => ?_
 refine wl_nil (hK3 _ _ ?_)
 refine wp_ret ?_
 refine xt ?_
 simp only [List.mem_cons, List.not_mem_nil, or_false] at h12 h20
 refine ret1c rfl ag25 hF hS (i := 3) rfl sz25 rfl ⟨⟨⟨IntKind.i64.wrap (1 + x5), IntKind.i64.wrap (1 + x8), x12, IntKind.i64.wrap (1 + x14), x17, x20⟩, rfl, ?_⟩, (Sep.headp (A := [_, _, _, _, _]) (B := [_]) hS [4] (by decide) rfl rfl)⟩
 rw [w64_id (q := 1 + x5) (by omega) (by omega), w64_id (q := 1 + x8) (by omega) (by omega), w64_id (q := 1 + x14) (by omega) (by omega)]
 unfold Config.ok; dsimp only; omega
theorem l3Config_c {W : World} {g : Nat} {vb : Value} {bs : List Int} (hbs : byteEK.Rd W vb bs) {l : List Res} {w : World} {q : Nat} (hS : Sep W l w) (hq : l[q]? = some (Cur g vb bs.length)) : Calls Tryz.prog 159 #[.pointer (some ⟨g, 0, none⟩)] w (Ret fun v w' => (∃ c : Config, v = .agg c.enc.toArray ∧ c.ok) ∧ Sep W l w') :=
  draw_at (R := fun v => ∃ c : Config, v = .agg c.enc.toArray ∧ c.ok) (fun _ _ h => l3Config_h hbs h ) hS hq
theorem l5Op_h {W : World} {g : Nat} {vb : Value} {bs : List Int} (hbs : byteEK.Rd W vb bs) {l : List Res} {w : World} (hS : Sep W (Cur g vb bs.length :: l) w) {n : Int} (hn : n ≤ 10) : Calls Tryz.prog 84 #[.pointer (some ⟨g, 0, none⟩), vi n] w (Ret fun v w' => (∃ o : Sl.Op, v = .agg o.enc.toArray ∧ o.ok) ∧ Sep W (Cur g vb bs.length :: l) w') := by
 refine calls_fr Tryz.func84 rfl Tryz.ntmps84 rfl ?_
 intro a hF
 refine ws fun K1 hK1 => ?_
 refine wl_alloc hF hS rfl zr31 fun g1 w1 a hS _ hF => ?_
 refine wl_nil (hK1 _ _ ?_)
 refine wp_seq_k fun K2 hK2 => ?_
 refine ws fun K3 hK3 => ?_
 refine ga 1 hF rfl fun a hF => ?_
 refine ck hF rfl (l1Below_c hbs (q := 1) _ hS rfl) ?_; rintro v w2 a ⟨⟨x6, rfl, h6⟩, hS⟩ hF
 refine wl_nil (hK3 _ _ ?_)
 refine wp_block ?_
 refine wp_seq_k fun K4 hK4 => ?_
 refine rg hF rfl fun a hF => ?_
 refine cx 7 hF rfl (fun c7 hF => ?_) fun c7 hF => ?_
 ·
  refine wp_skip ?_
  refine hK4 _ _ ?_
  refine wc_true (hF.ev rfl) ?_
  refine ws fun K6 hK6 => ?_
  refine wl hF rfl rfl rfl (r_build (bd31_0 _) ⟨rfl, ec, trivial⟩) fun a hF => ?_
  refine ww 0 hF hS rfl rfl rfl rfl rfl rfl fun w3 hS => ?_
  refine wl_nil (hK6 _ _ ?_)
  refine wp_ret ?_
  refine xt ?_
  refine ret1c rfl ag31 hF hS (i := 0) rfl sz31 rfl ⟨⟨⟨_, _, _⟩, rfl, ?_⟩, (Sep.headp (A := [_, _]) (B := [_]) hS [1] (by decide) rfl rfl)⟩
  unfold Sl.Op.ok; dsimp only; omega
 refine wp_region_lit ?_
 refine ge hK4 hF rfl fun a hF => ?_
 refine cx 7 hF rfl (fun c7 hF => ?_) fun c7 hF => ?_
 ·
  refine ws fun K7 hK7 => ?_
  refine wl hF rfl rfl rfl (r_build (bd31_0 _) ⟨rfl, ec, trivial⟩) fun a hF => ?_
  refine ww 0 hF hS rfl rfl rfl rfl rfl rfl fun w4 hS => ?_
  refine wl_nil (hK7 _ _ ?_)
  refine wp_ret ?_
  refine xt ?_
  refine ret1c rfl ag31 hF hS (i := 0) rfl sz31 rfl ⟨⟨⟨_, _, _⟩, rfl, ?_⟩, (Sep.headp (A := [_, _]) (B := [_]) hS [1] (by decide) rfl rfl)⟩
  unfold Sl.Op.ok; dsimp only; omega
 refine wp_seq_k fun K8 hK8 => ?_
 refine rg hF rfl fun a hF => ?_
 refine cx 11 hF rfl (fun c11 hF => ?_) fun c11 hF => ?_
 ·
  refine wp_skip ?_
  refine hK8 _ _ ?_
  refine wc_true (hF.ev rfl) ?_
  refine ws fun K10 hK10 => ?_
  refine ga 2 hF rfl fun a hF => ?_
  refine ck hF rfl (l1Below_c hbs (q := 1) _ hS rfl) ?_; rintro v w5 a ⟨⟨x17, rfl, h17⟩, hS⟩ hF
  refine wl hF rfl rfl rfl (r_build (bd31_0_1 _ _) ⟨rfl, ec, rfl, (hF.ev rfl), trivial⟩) fun a hF => ?_
  refine ww 0 hF hS rfl rfl rfl rfl rfl rfl fun w6 hS => ?_
  refine wl_nil (hK10 _ _ ?_)
  refine wp_ret ?_
  refine xt ?_
  refine ret1c rfl ag31 hF hS (i := 0) rfl sz31 rfl ⟨⟨⟨_, _, _⟩, rfl, ?_⟩, (Sep.headp (A := [_, _]) (B := [_]) hS [1] (by decide) rfl rfl)⟩
  unfold Sl.Op.ok; dsimp only; omega
 refine rg hF rfl fun a hF => ?_
 refine cx 11 hF rfl (fun c11 hF => ?_) fun c11 hF => ?_
 ·
  refine wp_skip ?_
  refine hK8 _ _ ?_
  refine wc_true (hF.ev rfl) ?_
  refine ws fun K12 hK12 => ?_
  refine ga 2 hF rfl fun a hF => ?_
  refine ck hF rfl (l1Below_c hbs (q := 1) _ hS rfl) ?_; rintro v w7 a ⟨⟨x17, rfl, h17⟩, hS⟩ hF
  refine wl hF rfl rfl rfl (r_build (bd31_0_1 _ _) ⟨rfl, ec, rfl, (hF.ev rfl), trivial⟩) fun a hF => ?_
  refine ww 0 hF hS rfl rfl rfl rfl rfl rfl fun w8 hS => ?_
  refine wl_nil (hK12 _ _ ?_)
  refine wp_ret ?_
  refine xt ?_
  refine ret1c rfl ag31 hF hS (i := 0) rfl sz31 rfl ⟨⟨⟨_, _, _⟩, rfl, ?_⟩, (Sep.headp (A := [_, _]) (B := [_]) hS [1] (by decide) rfl rfl)⟩
  unfold Sl.Op.ok; dsimp only; omega
 refine wp_region_lit ?_
 refine ge hK8 hF rfl fun a hF => ?_
 refine cx 11 hF rfl (fun c11 hF => ?_) fun c11 hF => ?_
 ·
  refine ws fun K13 hK13 => ?_
  refine ga 2 hF rfl fun a hF => ?_
  refine ck hF rfl (l1Below_c hbs (q := 1) _ hS rfl) ?_; rintro v w9 a ⟨⟨x17, rfl, h17⟩, hS⟩ hF
  refine wl hF rfl rfl rfl (r_build (bd31_0_1 _ _) ⟨rfl, ec, rfl, (hF.ev rfl), trivial⟩) fun a hF => ?_
  refine ww 0 hF hS rfl rfl rfl rfl rfl rfl fun w10 hS => ?_
  refine wl_nil (hK13 _ _ ?_)
  refine wp_ret ?_
  refine xt ?_
  refine ret1c rfl ag31 hF hS (i := 0) rfl sz31 rfl ⟨⟨⟨_, _, _⟩, rfl, ?_⟩, (Sep.headp (A := [_, _]) (B := [_]) hS [1] (by decide) rfl rfl)⟩
  unfold Sl.Op.ok; dsimp only; omega
 refine rg hF rfl fun a hF => ?_
 refine cx 19 hF rfl (fun c19 hF => ?_) fun c19 hF => ?_
 ·
  refine ws fun K15 hK15 => ?_
  refine wl hF rfl rfl rfl (r_build (bd31_0 _) ⟨rfl, ec, trivial⟩) fun a hF => ?_
  refine ww 0 hF hS rfl rfl rfl rfl rfl rfl fun w11 hS => ?_
  refine wl_nil (hK15 _ _ ?_)
  refine wp_ret ?_
  refine xt ?_
  refine ret1c rfl ag31 hF hS (i := 0) rfl sz31 rfl ⟨⟨⟨_, _, _⟩, rfl, ?_⟩, (Sep.headp (A := [_, _]) (B := [_]) hS [1] (by decide) rfl rfl)⟩
  unfold Sl.Op.ok; dsimp only; omega
 refine rg hF rfl fun a hF => ?_
 refine cx 22 hF rfl (fun c22 hF => ?_) fun c22 hF => ?_
 ·
  refine ws fun K17 hK17 => ?_
  refine wl hF rfl rfl rfl (r_build (bd31_0 _) ⟨rfl, ec, trivial⟩) fun a hF => ?_
  refine ww 0 hF hS rfl rfl rfl rfl rfl rfl fun w12 hS => ?_
  refine wl_nil (hK17 _ _ ?_)
  refine wp_ret ?_
  refine xt ?_
  refine ret1c rfl ag31 hF hS (i := 0) rfl sz31 rfl ⟨⟨⟨_, _, _⟩, rfl, ?_⟩, (Sep.headp (A := [_, _]) (B := [_]) hS [1] (by decide) rfl rfl)⟩
  unfold Sl.Op.ok; dsimp only; omega
 refine wp_skip ?_
 refine xt ?_
 refine hK2 _ _ ?_
 refine ws fun K18 hK18 => ?_
 refine ga 2 hF rfl fun a hF => ?_
 refine ck hF rfl (l1Below_c hbs (q := 1) _ hS rfl) ?_; rintro v w13 a ⟨⟨x27, rfl, h27⟩, hS⟩ hF
 refine ga 1 hF rfl fun a hF => ?_
 refine ck hF rfl (l1Below_c hbs (q := 1) _ hS rfl) ?_; rintro v w14 a ⟨⟨x29, rfl, h29⟩, hS⟩ hF
 refine wl hF rfl rfl rfl (r_build (bd31_0_1_2 _ _ _) ⟨rfl, ec, rfl, (hF.ev rfl), rfl, (hF.ev rfl), trivial⟩) fun a hF => ?_
 refine ww 0 hF hS rfl rfl rfl rfl rfl rfl fun w15 hS => ?_
 refine wl_nil (hK18 _ _ ?_)
 refine wp_ret ?_
 refine xt ?_
 refine ret1c rfl ag31 hF hS (i := 0) rfl sz31 rfl ⟨⟨⟨_, _, _⟩, rfl, ?_⟩, (Sep.headp (A := [_, _]) (B := [_]) hS [1] (by decide) rfl rfl)⟩
 unfold Sl.Op.ok; dsimp only; omega
theorem l5Op_c {W : World} {g : Nat} {vb : Value} {bs : List Int} (hbs : byteEK.Rd W vb bs) {l : List Res} {w : World} {q : Nat} {n : Int} (hn : n ≤ 10) (hS : Sep W l w) (hq : l[q]? = some (Cur g vb bs.length)) : Calls Tryz.prog 84 #[.pointer (some ⟨g, 0, none⟩), vi n] w (Ret fun v w' => (∃ o : Sl.Op, v = .agg o.enc.toArray ∧ o.ok) ∧ Sep W l w') :=
  draw_at (R := fun v => ∃ o : Sl.Op, v = .agg o.enc.toArray ∧ o.ok) (fun _ _ h => l5Op_h hbs h hn) hS hq
theorem l1New_c {W : World} {vb : Value} {bs : List Int} (hb : byteEK.Rd W vb bs) (hz : bs.length ≤ 1048576) : Calls Tryz.prog 53 #[vb] W (Ret (Mk W (fun g : Nat => .pointer (some ⟨g, 0, none⟩)) (fun g => [Cur g vb bs.length]))) := by
 refine calls_fr Tryz.func53 rfl Tryz.ntmps53 rfl ?_
 intro a hF
 have hS := Sep.refl W
 obtain ⟨A_b, q_b, rfl, hq_b, hn_b⟩ := hb.sl; unfold maxLen at hn_b
 refine rg hF rfl fun a hF => ?_
 refine rg hF rfl fun a hF => ?_
 refine wp_seq_k fun K3 hK3 => ?_
 refine rg hF rfl fun a hF => ?_
 refine wp_block ?_
 have hL_ := ((hF.nil.keep hF (t := 2) rfl).keep hF (t := 0) rfl)
 refine wp_loop_r (σ := Nat × Int) (fun z L_ => (4, vi z.1) :: (3, vi z.2) :: L_) (fun z => (z.1 ≤ bs.length)) (fun z => bs.length - z.1) (0, _) hS ((hL_.keepE hF (t := 3) rfl rfl).keepE hF (t := 4) rfl rfl) ?_ ?_
 · exact Nat.zero_le _
 rintro ⟨k, h⟩ a w1 hk hS hF; try dsimp only at hF; try dsimp only at hS; try dsimp only at hk
 refine wp_seq_k fun K5 hK5 => ?_
 refine ws fun K6 hK6 => ?_
 refine ga 5 hF rfl fun a hF => ?_
 apply wa 3 12 15 hF hS
 ·
  intro hg12 a hF
  exact je 3 hF hS rfl rfl rfl rfl
 intro a w2 hF hS
 refine wl_nil (hK6 _ _ ?_)
 refine cx 15 hF rfl (fun c15 hF => ?_) fun c15 hF => ?_
 ·
  refine wp_skip ?_
  refine hK5 _ _ ?_
  refine wp_seq_k fun K7 hK7 => ?_
  refine wp_block ?_
  refine wp_region_lit ?_
  refine ga 4 hF rfl fun a hF => ?_
  obtain ⟨g22, o22, m22, q22, hv22, hm22, hl22, hc22⟩ := Rd.atF (hb) (a := a) (X := .tmp 21) (hF.ev rfl) (by omega) (by omega)
  refine wl hF rfl rfl rfl (r_index sl22 ((hF.ev rfl).trans hv22) (hF.ev rfl) (by omega) (by first | omega | (simp at hm22; omega))) fun a hF => ?_
  refine wl hF rfl rfl rfl (r_load1 sc5 (hF.ev rfl) (cellB hS.old (hc22 0 _ rfl))) fun a hF => ?_
  refine wl hF rfl rfl rfl (r_convw iu5 iu3 (hF.ev rfl)) fun a hF => ?_
  refine ga 2 hF rfl fun a hF => ?_
  refine wl hF rfl rfl rfl (r_and (hF.ev rfl) ec) fun a hF => ?_
  refine ga 1 hF rfl fun a hF => ?_
  refine wl_nil ?_
  refine xt ?_
  refine hK7 _ _ ?_
  refine rl hF rfl fun a hF => ?_
  refine xt ?_
  refine ⟨(k + 1, _), (by dsimp only; omega), hS, ((((hF.nil.keep hF (t := 2) rfl).keep hF (t := 0) rfl).keepE hF (t := 3) rfl rfl).keepE hF (t := 4) rfl (wk (by omega))), by dsimp only; omega⟩
 refine wp_exit ?_
 refine xt ?_
 refine hK3 _ _ ?_
 refine ws fun K8 hK8 => ?_
 refine ga 2 hF rfl fun a hF => ?_
 refine wl hF rfl rfl rfl (r_build (bd97_0_2 _ _ _ _) ⟨rfl, (hF.ev rfl), rfl, (hF.ev rfl), trivial⟩) fun a hF => ?_
 refine wl_box (cs := [_, _, _]) hF hS rfl (hF.ev rfl) rfl fun g1 w3 a hS _ hF => ?_
 refine ge hK8 hF rfl fun a hF => ?_
 refine wp_ret ?_
 refine xt ?_
 exact ret1 rfl hF rfl ⟨g1, rfl, (hS.pick [0] (by decide) rfl).cur_close ⟨by omega, by omega⟩⟩
end Go.Proofs.YtgofolgogfmhgaaGreat.Wk
namespace Go.Proofs.YtgofolgogfmhgaaGreat.Wk
open Go Go.RowKit Sl
end Go.Proofs.YtgofolgogfmhgaaGreat.Wk
namespace Go.Proofs.YtgofolgogfmhgaaGreat.Wk
open Go Go.RowKit Sl
set_option linter.unusedVariables false
set_option linter.unusedSimpArgs false
set_option maxRecDepth 20000
theorem l2Handle_h {W : World} {g : Nat} {vb : Value} {bs : List Int} (hbs : byteEK.Rd W vb bs) {l : List Res} {w : World} (hS : Sep W (Cur g vb bs.length :: l) w) : Calls Tryz.prog 197 #[.pointer (some ⟨g, 0, none⟩)] w (Ret fun v w' => (∃ x : Int, v = vi x ∧ int64 x) ∧ Sep W (Cur g vb bs.length :: l) w') := by
 refine calls_fr Tryz.func197 rfl Tryz.ntmps197 rfl ?_
 intro a hF
 refine rg hF rfl fun a hF => ?_
 refine wp_seq_k fun K2 hK2 => ?_
 refine ws fun K3 hK3 => ?_
 refine ga 1 hF rfl fun a hF => ?_
 refine ck hF rfl (l1Below_c hbs (q := 0) _ hS rfl) ?_; rintro v w1 a ⟨⟨x4, rfl, h4⟩, hS⟩ hF
 refine wl_nil (hK3 _ _ ?_)
 refine wp_block ?_
 refine rg hF rfl fun a hF => ?_
 refine cx 5 hF rfl (fun c5 hF => ?_) fun c5 hF => ?_
 ·
  refine rg hF rfl fun a hF => ?_
  refine wp_ret ?_
  refine xt ?_
  exact ret1 rfl hF rfl ⟨⟨0, rfl, int64_zero⟩, hS⟩
 refine rg hF rfl fun a hF => ?_
 refine cx 7 hF rfl (fun c7 hF => ?_) fun c7 hF => ?_
 ·
  refine ws fun K7 hK7 => ?_
  refine ga 1 hF rfl fun a hF => ?_
  refine wl_bslice intEK [vi (-2), vi (-1), vi 1, vi 128, vi 129, vi 1280000, vi 1280126, vi 1280127, vi 9223372036854775807] [-2, -1, 1, 128, 129, 1280000, 1280126, 1280127, 9223372036854775807] rfl hF hS rfl mk26 rfl ⟨rfl, ec, rfl, ec, rfl, ec, rfl, ec, rfl, ec, rfl, ec, rfl, ec, rfl, ec, rfl, ec, trivial⟩ rfl rfl rfl rfl fun gl_10 w2 a hS hF => ?_
  refine ck hF rfl (l1PickInt_c hbs (q := 1) (fun w_ hS => (hS.own_rd (i := 0) rfl)) (by decide) hS rfl) ?_; rintro v w3 a ⟨⟨x11, rfl, h11⟩, hS⟩ hF
  refine ge hK7 hF rfl fun a hF => ?_
  refine wp_ret ?_
  refine xt ?_
  simp only [List.mem_cons, List.not_mem_nil, or_false] at h11
  exact ret1 rfl hF rfl ⟨⟨x11, rfl, by unfold int64; omega⟩, (Sep.headp (A := [_, _]) (B := [_]) hS [1] (by decide) rfl rfl)⟩
 refine wp_skip ?_
 refine xt ?_
 refine hK2 _ _ ?_
 refine ws fun K8 hK8 => ?_
 refine ga 1 hF rfl fun a hF => ?_
 refine ck hF rfl (l1Below_c hbs (q := 0) _ hS rfl) ?_; rintro v w4 a ⟨⟨x13, rfl, h13⟩, hS⟩ hF
 refine ga 1 hF rfl fun a hF => ?_
 refine ck hF rfl (l1Below_c hbs (q := 0) _ hS rfl) ?_; rintro v w5 a ⟨⟨x15, rfl, h15⟩, hS⟩ hF
 refine ckr hF hS rfl (specMakeHandle_c) fun w6 a hS hF => ?_
 refine ga 1 hF rfl fun a hF => ?_
 refine ck hF rfl (l1Below_c hbs (q := 0) _ hS rfl) ?_; rintro v w7 a ⟨⟨x18, rfl, h18⟩, hS⟩ hF
 refine ge hK8 hF rfl fun a hF => ?_
 refine wp_ret ?_
 refine xt ?_
 exact ret1 rfl hF rfl ⟨⟨_, rfl, int64_wrap _⟩, hS⟩
theorem l2Handle_c {W : World} {g : Nat} {vb : Value} {bs : List Int} (hbs : byteEK.Rd W vb bs) {l : List Res} {w : World} {q : Nat} (hS : Sep W l w) (hq : l[q]? = some (Cur g vb bs.length)) : Calls Tryz.prog 197 #[.pointer (some ⟨g, 0, none⟩)] w (Ret fun v w' => (∃ x : Int, v = vi x ∧ int64 x) ∧ Sep W l w') :=
  draw_at (R := fun v => ∃ x : Int, v = vi x ∧ int64 x) (fun _ _ h => l2Handle_h hbs h ) hS hq
theorem l6Entry_h {W : World} {g : Nat} {vb : Value} {bs : List Int} (hbs : byteEK.Rd W vb bs) {l : List Res} {w : World} (hS : Sep W (Cur g vb bs.length :: l) w) : Calls Tryz.prog 207 #[.pointer (some ⟨g, 0, none⟩)] w (Ret fun v w' => (∃ e : Entry, v = .agg e.enc.toArray ∧ e.wf) ∧ Sep W (Cur g vb bs.length :: l) w') := by
 refine calls_fr Tryz.func207 rfl Tryz.ntmps207 rfl ?_
 intro a hF
 refine ws fun K1 hK1 => ?_
 refine wl_alloc hF hS rfl zr83 fun g1 w1 a hS _ hF => ?_
 refine wl_nil (hK1 _ _ ?_)
 refine ws fun K2 hK2 => ?_
 refine ga 1 hF rfl fun a hF => ?_
 refine ck hF rfl (l1Below_c hbs (q := 1) _ hS rfl) ?_; rintro v w2 a ⟨⟨x5, rfl, h5⟩, hS⟩ hF
 refine ge hK2 hF rfl fun a hF => ?_
 refine ws fun K3 hK3 => ?_
 refine ga 1 hF rfl fun a hF => ?_
 refine ck hF rfl (l1Below_c hbs (q := 1) _ hS rfl) ?_; rintro v w3 a ⟨⟨x8, rfl, h8⟩, hS⟩ hF
 refine ga 1 hF rfl fun a hF => ?_
 refine ck hF rfl (l1Below_c hbs (q := 1) _ hS rfl) ?_; rintro v w4 a ⟨⟨x10, rfl, h10⟩, hS⟩ hF
 refine ckr hF hS rfl (specMakeHandle_c) fun w5 a hS hF => ?_
 refine ga 1 hF rfl fun a hF => ?_
 refine ck hF rfl (l1Below_c hbs (q := 1) _ hS rfl) ?_; rintro v w6 a ⟨⟨x13, rfl, h13⟩, hS⟩ hF
 refine ga 3 hF rfl fun a hF => ?_
 refine ck hF rfl (l1Below_c hbs (q := 1) _ hS rfl) ?_; rintro v w7 a ⟨⟨x17, rfl, h17⟩, hS⟩ hF
 refine ga 1 hF rfl fun a hF => ?_
 refine wl hF rfl rfl rfl (r_build (bd83_0_1_2_3 _ _ _ _) ⟨rfl, (hF.ev rfl), rfl, (hF.ev rfl), rfl, (hF.ev rfl), rfl, (hF.ev rfl), trivial⟩) fun a hF => ?_
 refine ww 0 hF hS rfl rfl rfl rfl rfl rfl fun w8 hS => ?_
 refine wl_nil (hK3 _ _ ?_)
 refine wp_ret ?_
 refine xt ?_
 exact ret1c rfl ag83 hF hS (i := 0) rfl sz83 rfl ⟨⟨⟨_, _, _, _⟩, rfl, int64_makeHandle, by unfold int64; dsimp only; omega, int64_wrap _, int64_wrap _⟩, (Sep.headp (A := [_, _]) (B := [_]) hS [1] (by decide) rfl rfl)⟩
theorem l6Entry_c {W : World} {g : Nat} {vb : Value} {bs : List Int} (hbs : byteEK.Rd W vb bs) {l : List Res} {w : World} {q : Nat} (hS : Sep W l w) (hq : l[q]? = some (Cur g vb bs.length)) : Calls Tryz.prog 207 #[.pointer (some ⟨g, 0, none⟩)] w (Ret fun v w' => (∃ e : Entry, v = .agg e.enc.toArray ∧ e.wf) ∧ Sep W l w') :=
  draw_at (R := fun v => ∃ e : Entry, v = .agg e.enc.toArray ∧ e.wf) (fun _ _ h => l6Entry_h hbs h ) hS hq
theorem l6Any_h {W : World} {g : Nat} {vb : Value} {bs : List Int} (hbs : byteEK.Rd W vb bs) {l : List Res} {w : World} (hS : Sep W (Cur g vb bs.length :: l) w) : Calls Tryz.prog 206 #[.pointer (some ⟨g, 0, none⟩)] w (Ret fun v w' => (∃ e : Entry, v = .agg e.enc.toArray ∧ e.wf) ∧ Sep W (Cur g vb bs.length :: l) w') := by
 refine calls_fr Tryz.func206 rfl Tryz.ntmps206 rfl ?_
 intro a hF
 refine ws fun K1 hK1 => ?_
 refine wl_alloc hF hS rfl zr83 fun g1 w1 a hS _ hF => ?_
 refine wl_nil (hK1 _ _ ?_)
 refine ws fun K2 hK2 => ?_
 refine ga 1 hF rfl fun a hF => ?_
 refine ck hF rfl (l6Entry_c hbs (q := 1) hS rfl) ?_; rintro v w2 a ⟨⟨e5, rfl, h5⟩, hS⟩ hF
 refine wl_alloc hF hS rfl zr83 fun g2 w3 a hS _ hF => ?_
 refine wl_storen (cs' := [_, _, _, _]) hF hS (i := 0) rfl (hF.ev rfl) (hF.ev rfl) sz83 ⟨rfl, rfl⟩ rfl rfl fun w4 hS => ?_; dsimp only [List.set] at hS
 refine wl_nil (hK2 _ _ ?_)
 refine wp_seq_k fun K3 hK3 => ?_
 refine ws fun K4 hK4 => ?_
 refine ga 1 hF rfl fun a hF => ?_
 refine ck hF rfl (l1Below_c hbs (q := 2) _ hS rfl) ?_; rintro v w5 a ⟨⟨x7, rfl, h7⟩, hS⟩ hF
 refine wl_nil (hK4 _ _ ?_)
 refine wp_block ?_
 refine rg hF rfl fun a hF => ?_
 refine cx 8 hF rfl (fun c8 hF => ?_) fun c8 hF => ?_
 ·
  refine wp_region_lit ?_
  refine ga 1 hF rfl fun a hF => ?_
  refine ck hF rfl (l2Handle_c hbs (q := 2) hS rfl) ?_; rintro v w6 a ⟨⟨x11, rfl, h11⟩, hS⟩ hF
  refine ga 1 hF rfl fun a hF => ?_
  refine wv 0 hF hS rfl rfl rfl rfl rfl rfl fun w7 hS => ?_
  refine wl_nil ?_
  refine xt ?_
  refine hK3 _ _ ?_
  refine ws fun K6 hK6 => ?_
  refine gb 1 0 hF hS rfl rfl rfl fun a hF => ?_
  refine ww 1 hF hS rfl rfl rfl rfl rfl rfl fun w8 hS => ?_
  refine wl_nil (hK6 _ _ ?_)
  refine wp_ret ?_
  refine xt ?_
  obtain ⟨g1_, g2_, g3_, g4_⟩ := h5
  refine ret1c rfl ag83 hF hS (i := 1) rfl sz83 rfl ⟨⟨⟨x11, e5.key, e5.low, e5.high⟩, rfl, h11, g2_, g3_, g4_⟩, (Sep.headp (A := [_, _, _]) (B := [_]) hS [2] (by decide) rfl rfl)⟩
 refine rg hF rfl fun a hF => ?_
 refine cx 13 hF rfl (fun c13 hF => ?_) fun c13 hF => ?_
 ·
  refine wp_region_lit ?_
  refine ga 1 hF rfl fun a hF => ?_
  refine wl_bslice intEK [vi 0, vi 1, vi 99, vi 100] [0, 1, 99, 100] rfl hF hS rfl mk26 rfl ⟨rfl, ec, rfl, ec, rfl, ec, rfl, ec, trivial⟩ rfl rfl rfl rfl fun gl_16 w9 a hS hF => ?_
  refine ck hF rfl (l1PickInt_c hbs (q := 3) (fun w_ hS => (hS.own_rd (i := 0) rfl)) (by decide) hS rfl) ?_; rintro v w10 a ⟨⟨x17, rfl, h17⟩, hS⟩ hF
  refine ga 1 hF rfl fun a hF => ?_
  refine wv 1 hF hS rfl rfl rfl rfl rfl rfl fun w11 hS => ?_
  refine wl_nil ?_
  refine xt ?_
  refine hK3 _ _ ?_
  refine ws fun K8 hK8 => ?_
  refine gb 1 1 hF hS rfl rfl rfl fun a hF => ?_
  refine ww 2 hF hS rfl rfl rfl rfl rfl rfl fun w12 hS => ?_
  refine wl_nil (hK8 _ _ ?_)
  refine wp_ret ?_
  refine xt ?_
  obtain ⟨g1_, g2_, g3_, g4_⟩ := h5
  simp only [List.mem_cons, List.not_mem_nil, or_false] at h17
  refine ret1c rfl ag83 hF hS (i := 2) rfl sz83 rfl ⟨⟨⟨e5.handle, e5.key, x17, e5.high⟩, rfl, g1_, g2_, (by unfold int64; dsimp only; omega), g4_⟩, (Sep.headp (A := [_, _, _, _]) (B := [_]) hS [3] (by decide) rfl rfl)⟩
 refine rg hF rfl fun a hF => ?_
 refine cx 19 hF rfl (fun c19 hF => ?_) fun c19 hF => ?_
 ·
  refine wp_region_lit ?_
  refine ga 1 hF rfl fun a hF => ?_
  refine wl_bslice intEK [vi 0, vi 99, vi 100] [0, 99, 100] rfl hF hS rfl mk26 rfl ⟨rfl, ec, rfl, ec, rfl, ec, trivial⟩ rfl rfl rfl rfl fun gl_22 w13 a hS hF => ?_
  refine ck hF rfl (l1PickInt_c hbs (q := 3) (fun w_ hS => (hS.own_rd (i := 0) rfl)) (by decide) hS rfl) ?_; rintro v w14 a ⟨⟨x23, rfl, h23⟩, hS⟩ hF
  refine ga 1 hF rfl fun a hF => ?_
  refine wv 1 hF hS rfl rfl rfl rfl rfl rfl fun w15 hS => ?_
  refine wl_nil ?_
  refine xt ?_
  refine hK3 _ _ ?_
  refine ws fun K10 hK10 => ?_
  refine gb 1 1 hF hS rfl rfl rfl fun a hF => ?_
  refine ww 2 hF hS rfl rfl rfl rfl rfl rfl fun w16 hS => ?_
  refine wl_nil (hK10 _ _ ?_)
  refine wp_ret ?_
  refine xt ?_
  obtain ⟨g1_, g2_, g3_, g4_⟩ := h5
  simp only [List.mem_cons, List.not_mem_nil, or_false] at h23
  refine ret1c rfl ag83 hF hS (i := 2) rfl sz83 rfl ⟨⟨⟨e5.handle, e5.key, e5.low, x23⟩, rfl, g1_, g2_, g3_, (by unfold int64; dsimp only; omega)⟩, (Sep.headp (A := [_, _, _, _]) (B := [_]) hS [3] (by decide) rfl rfl)⟩
 refine rg hF rfl fun a hF => ?_
 refine cx 25 hF rfl (fun c25 hF => ?_) fun c25 hF => ?_
 ·
  refine wp_region_lit ?_
  refine ga 1 hF rfl fun a hF => ?_
  refine wl_bslice intEK [vi (-1), vi 9, vi 10] [-1, 9, 10] rfl hF hS rfl mk26 rfl ⟨rfl, ec, rfl, ec, rfl, ec, trivial⟩ rfl rfl rfl rfl fun gl_28 w17 a hS hF => ?_
  refine ck hF rfl (l1PickInt_c hbs (q := 3) (fun w_ hS => (hS.own_rd (i := 0) rfl)) (by decide) hS rfl) ?_; rintro v w18 a ⟨⟨x29, rfl, h29⟩, hS⟩ hF
  refine ga 1 hF rfl fun a hF => ?_
  refine wv 1 hF hS rfl rfl rfl rfl rfl rfl fun w19 hS => ?_
  refine wl_nil ?_
  refine xt ?_
  refine hK3 _ _ ?_
  refine ws fun K12 hK12 => ?_
  refine gb 1 1 hF hS rfl rfl rfl fun a hF => ?_
  refine ww 2 hF hS rfl rfl rfl rfl rfl rfl fun w20 hS => ?_
  refine wl_nil (hK12 _ _ ?_)
  refine wp_ret ?_
  refine xt ?_
  obtain ⟨g1_, g2_, g3_, g4_⟩ := h5
  simp only [List.mem_cons, List.not_mem_nil, or_false] at h29
  refine ret1c rfl ag83 hF hS (i := 2) rfl sz83 rfl ⟨⟨⟨e5.handle, x29, e5.low, e5.high⟩, rfl, g1_, (by unfold int64; dsimp only; omega), g3_, g4_⟩, (Sep.headp (A := [_, _, _, _]) (B := [_]) hS [3] (by decide) rfl rfl)⟩
 refine wp_skip ?_
 refine xt ?_
 refine hK3 _ _ ?_
 refine ws fun K13 hK13 => ?_
 refine gb 1 0 hF hS rfl rfl rfl fun a hF => ?_
 refine ww 1 hF hS rfl rfl rfl rfl rfl rfl fun w21 hS => ?_
 refine wl_nil (hK13 _ _ ?_)
 refine wp_ret ?_
 refine xt ?_
 obtain ⟨g1_, g2_, g3_, g4_⟩ := h5
 refine ret1c rfl ag83 hF hS (i := 1) rfl sz83 rfl ⟨⟨⟨e5.handle, e5.key, e5.low, e5.high⟩, rfl, g1_, g2_, g3_, g4_⟩, (Sep.headp (A := [_, _, _]) (B := [_]) hS [2] (by decide) rfl rfl)⟩
theorem l6Any_c {W : World} {g : Nat} {vb : Value} {bs : List Int} (hbs : byteEK.Rd W vb bs) {l : List Res} {w : World} {q : Nat} (hS : Sep W l w) (hq : l[q]? = some (Cur g vb bs.length)) : Calls Tryz.prog 206 #[.pointer (some ⟨g, 0, none⟩)] w (Ret fun v w' => (∃ e : Entry, v = .agg e.enc.toArray ∧ e.wf) ∧ Sep W l w') :=
  draw_at (R := fun v => ∃ e : Entry, v = .agg e.enc.toArray ∧ e.wf) (fun _ _ h => l6Any_h hbs h ) hS hq
theorem l6Stamps_h {W : World} {g : Nat} {vb : Value} {bs : List Int} (hbs : byteEK.Rd W vb bs) {l : List Res} {w : World} (hS : Sep W (Cur g vb bs.length :: l) w) : Calls Tryz.prog 54 #[.pointer (some ⟨g, 0, none⟩)] w (Ret fun v w' => ∃ z : List Int × Slv, (v = sv z.2 ∧ (∀ x ∈ z.1, int64 x) ∧ z.1.length ≤ 10) ∧ Sep W (Own intEK (sv z.2) z.1 :: Cur g vb bs.length :: l) w') := by
 refine calls_fr Tryz.func54 rfl Tryz.ntmps54 rfl ?_
 intro a hF
 refine rg hF rfl fun a hF => ?_
 refine ws fun K2 hK2 => ?_
 refine wl_bslice intEK [] [] rfl hF hS rfl mk26 rfl trivial rfl rfl rfl rfl fun gl_6 w1 a hS hF => ?_
 refine ge hK2 hF rfl fun a hF => ?_
 refine wp_seq_k fun K3 hK3 => ?_
 refine ws fun K4 hK4 => ?_
 refine ga 1 hF rfl fun a hF => ?_
 refine ck hF rfl (l1Below_c hbs (q := 1) _ hS rfl) ?_; rintro v w2 a ⟨⟨x8, rfl, h8⟩, hS⟩ hF
 refine ge hK4 hF rfl fun a hF => ?_
 refine wp_block ?_
 replace hS := hS.pull (p := 0) rfl; dsimp only [List.eraseIdx] at hS
 have hL_ := ((hF.nil.keep hF (t := 2) rfl).keep hF (t := 0) rfl)
 refine wp_loop_m (σ := Int × List Int × Slv) (fun z L_ => (4, vi z.1) :: (3, sv z.2.2) :: L_) (fun z l_ => (Own intEK (sv z.2.2) z.2.1) :: l_) (fun z => (∀ x ∈ z.2.1, int64 x) ∧ (0 ≤ z.1 ∧ z.1 + (z.2.1.length : Int) ≤ 10)) (fun z => z.1.toNat) (x8, [], (some ⟨gl_6, 0, none⟩, 0, 0)) (hS) ((hL_.keepE hF (t := 3) rfl rfl).keepE hF (t := 4) rfl rfl) ?_ ?_
 · exact ⟨(fun _ h => by cases h), by dsimp only; simp; omega⟩
 rintro ⟨n, xs, q⟩ a w3 ⟨hx, hn⟩ hS hF; try dsimp only at hF; try dsimp only at hS; try dsimp only at hx; try dsimp only at hn
 refine wp_seq_k fun K5 hK5 => ?_
 refine rg hF rfl fun a hF => ?_
 refine cx 10 hF rfl (fun c10 hF => ?_) fun c10 hF => ?_
 ·
  refine wp_skip ?_
  refine hK5 _ _ ?_
  refine wp_seq_k fun K7 hK7 => ?_
  refine wp_block ?_
  refine ws fun K8 hK8 => ?_
  refine ga 1 hF rfl fun a hF => ?_
  refine ck hF rfl (l1Below_c hbs (q := 1) _ hS rfl) ?_; rintro v w4 a ⟨⟨x14, rfl, h14⟩, hS⟩ hF
  refine ge hK8 hF rfl fun a hF => ?_
  refine wp_region_lit ?_
  refine ga 2 hF rfl fun a hF => ?_
  refine wl_bslice intEK [vi (IntKind.i64.wrap (1 + x14))] [IntKind.i64.wrap (1 + x14)] rfl hF hS rfl mk26 rfl ⟨rfl, (hF.ev rfl), trivial⟩ rfl rfl rfl rfl fun gl_18 w5 a hS hF => ?_
  refine wl_append (q := 1) hF hS rfl rfl (hS.own_rd (i := 0) rfl) mk26 rfl (hF.ev rfl) (hF.ev rfl) (by simp; omega) (by unfold maxLen; simp; omega) ?_; intro A_19 c_19 w6 a hS_ hF; replace hS := hS_; clear hS_; dsimp only [List.set, List.length_cons, List.length_nil] at hS hF
  refine ga 1 hF rfl fun a hF => ?_
  refine wl_nil ?_
  refine xt ?_
  refine hK7 _ _ ?_
  refine rl hF rfl fun a hF => ?_
  refine xt ?_
  refine ⟨(n - 1, xs ++ [_], (_, _, _)), ⟨all_snoc hx (int64_wrap _), by dsimp only; simp; omega⟩, (Sep.headp (A := [_, _, _]) (B := [_, _]) hS [1, 2] (by decide) rfl rfl), ((((hF.nil.keep hF (t := 2) rfl).keep hF (t := 0) rfl).keepE hF (t := 3) rfl rfl).keepE hF (t := 4) rfl (congrArg vi (w64_id (by omega) (by omega)))), by dsimp only; omega⟩
 refine wp_exit ?_
 refine xt ?_
 refine hK3 _ _ ?_
 refine rg hF rfl fun a hF => ?_
 refine wp_ret ?_
 refine xt ?_
 exact ret1 rfl hF rfl ⟨(xs, q), ⟨rfl, hx, by dsimp only; omega⟩, (Sep.headp (A := [_, _]) (B := [_, _]) hS [0, 1] (by decide) rfl rfl)⟩
theorem l6Entries_h {W : World} {g : Nat} {vb : Value} {bs : List Int} (hbs : byteEK.Rd W vb bs) {l : List Res} {w : World} (hS : Sep W (Cur g vb bs.length :: l) w) : Calls Tryz.prog 198 #[.pointer (some ⟨g, 0, none⟩)] w (Ret fun v w' => ∃ z : List Entry × Slv, (v = sv z.2 ∧ (∀ x ∈ z.1, x.wf) ∧ z.1.length ≤ 10) ∧ Sep W (Own entryEK (sv z.2) z.1 :: Cur g vb bs.length :: l) w') := by
 refine calls_fr Tryz.func198 rfl Tryz.ntmps198 rfl ?_
 intro a hF
 refine rg hF rfl fun a hF => ?_
 refine ws fun K2 hK2 => ?_
 refine wl_bslice entryEK [] [] rfl hF hS rfl mk40 rfl trivial rfl rfl rfl rfl fun gl_6 w1 a hS hF => ?_
 refine ge hK2 hF rfl fun a hF => ?_
 refine wp_seq_k fun K3 hK3 => ?_
 refine ws fun K4 hK4 => ?_
 refine ga 1 hF rfl fun a hF => ?_
 refine ck hF rfl (l1Below_c hbs (q := 1) _ hS rfl) ?_; rintro v w2 a ⟨⟨x8, rfl, h8⟩, hS⟩ hF
 refine ge hK4 hF rfl fun a hF => ?_
 refine wp_block ?_
 replace hS := hS.pull (p := 0) rfl; dsimp only [List.eraseIdx] at hS
 have hL_ := ((hF.nil.keep hF (t := 2) rfl).keep hF (t := 0) rfl)
 refine wp_loop_m (σ := Int × List Entry × Slv) (fun z L_ => (4, vi z.1) :: (3, sv z.2.2) :: L_) (fun z l_ => (Own entryEK (sv z.2.2) z.2.1) :: l_) (fun z => (∀ x ∈ z.2.1, x.wf) ∧ (0 ≤ z.1 ∧ z.1 + (z.2.1.length : Int) ≤ 10)) (fun z => z.1.toNat) (x8, [], (some ⟨gl_6, 0, none⟩, 0, 0)) (hS) ((hL_.keepE hF (t := 3) rfl rfl).keepE hF (t := 4) rfl rfl) ?_ ?_
 · exact ⟨(fun _ h => by cases h), by dsimp only; simp; omega⟩
 rintro ⟨n, xs, q⟩ a w3 ⟨hx, hn⟩ hS hF; try dsimp only at hF; try dsimp only at hS; try dsimp only at hx; try dsimp only at hn
 refine wp_seq_k fun K5 hK5 => ?_
 refine rg hF rfl fun a hF => ?_
 refine cx 10 hF rfl (fun c10 hF => ?_) fun c10 hF => ?_
 ·
  refine wp_skip ?_
  refine hK5 _ _ ?_
  refine wp_seq_k fun K7 hK7 => ?_
  refine wp_block ?_
  refine ws fun K8 hK8 => ?_
  refine ga 1 hF rfl fun a hF => ?_
  refine ck hF rfl (l6Any_c hbs (q := 1) hS rfl) ?_; rintro v w4 a ⟨⟨e14, rfl, h14⟩, hS⟩ hF
  refine wl_alloc hF hS rfl zr83 fun g1 w5 a hS _ hF => ?_
  refine wl_storen (cs' := [_, _, _, _]) hF hS (i := 0) rfl (hF.ev rfl) (hF.ev rfl) sz83 ⟨rfl, rfl⟩ rfl rfl fun w6 hS => ?_; dsimp only [List.set] at hS
  refine wl_nil (hK8 _ _ ?_)
  refine wp_region_lit ?_
  refine gb 2 0 hF hS rfl rfl rfl fun a hF => ?_
  refine wl_bslice entryEK [.agg e14.enc.toArray] [e14] rfl hF hS rfl mk40 rfl ⟨rfl, (hF.ev rfl), trivial⟩ rfl rfl rfl rfl fun gl_17 w7 a hS hF => ?_
  refine wl_append (q := 2) hF hS rfl rfl (hS.own_rd (i := 0) rfl) mk40 rfl (hF.ev rfl) (hF.ev rfl) (by simp; omega) (by unfold maxLen; simp; omega) ?_; intro A_18 c_18 w8 a hS_ hF; replace hS := hS_; clear hS_; dsimp only [List.set, List.length_cons, List.length_nil] at hS hF
  refine ga 1 hF rfl fun a hF => ?_
  refine wl_nil ?_
  refine xt ?_
  refine hK7 _ _ ?_
  refine rl hF rfl fun a hF => ?_
  refine xt ?_
  refine ⟨(n - 1, xs ++ [_], (_, _, _)), ⟨all_snoc hx h14, by dsimp only; simp; omega⟩, (Sep.headp (A := [_, _, _, _]) (B := [_, _]) hS [2, 3] (by decide) rfl rfl), ((((hF.nil.keep hF (t := 2) rfl).keep hF (t := 0) rfl).keepE hF (t := 3) rfl rfl).keepE hF (t := 4) rfl (congrArg vi (w64_id (by omega) (by omega)))), by dsimp only; omega⟩
 refine wp_exit ?_
 refine xt ?_
 refine hK3 _ _ ?_
 refine rg hF rfl fun a hF => ?_
 refine wp_ret ?_
 refine xt ?_
 exact ret1 rfl hF rfl ⟨(xs, q), ⟨rfl, hx, by dsimp only; omega⟩, (Sep.headp (A := [_, _]) (B := [_, _]) hS [0, 1] (by decide) rfl rfl)⟩
end Go.Proofs.YtgofolgogfmhgaaGreat.Wk
namespace Go.Proofs.YtgofolgogfmhgaaGreat.Wk
open Go Go.RowKit Sl
theorem bd42_0_1_3_6_8 (x0) (x1) (x2) (x3) (x4) (x5) (x6) : Tryz.prog.built 42 [(0, .int .i64 x0), (1, .agg #[.int .i64 x1, .int .i64 x2, .int .i64 x3]), (3, .int .i64 x4), (6, .int .i64 x5), (8, .int .i64 x6)] = some [.int .i64 x0, .int .i64 x1, .int .i64 x2, .int .i64 x3, .int .i64 0, .int .i64 0, .int .i64 x4, .int .i64 0, .int .i64 0, .int .i64 x5, .int .i64 0, .int .i64 x6, .int .i64 0, .int .i64 0, .slice none 0 0, .slice none 0 0, .slice none 0 0, .slice none 0 0, .slice none 0 0].toArray := by kernel_rfl
end Go.Proofs.YtgofolgogfmhgaaGreat.Wk
namespace Go.Proofs.YtgofolgogfmhgaaGreat.Wk
open Go Go.RowKit Sl
theorem bd29 : Tryz.prog.built 29 [] = some [.int .i64 0, .int .i64 0, .int .i64 0, .int .i64 0, .int .i64 0, .int .i64 0, .slice none 0 0, .slice none 0 0, .slice none 0 0, .int .i64 0, .int .i64 0, .int .i64 0, .int .i64 0].toArray := by kernel_rfl
theorem bd29_0_1_2 (x0) (x1) (x2) (x3) (x4) (x5) (x6) (x7) (x8) (x9) (x10) (x11) : Tryz.prog.built 29 [(0, .agg #[.int .i64 x0, .int .i64 x1, .int .i64 x2, .int .i64 x3, .int .i64 x4, .int .i64 x5]), (1, .slice x6 x7 x8), (2, .slice x9 x10 x11)] = some [.int .i64 x0, .int .i64 x1, .int .i64 x2, .int .i64 x3, .int .i64 x4, .int .i64 x5, .slice x6 x7 x8, .slice x9 x10 x11, .slice none 0 0, .int .i64 0, .int .i64 0, .int .i64 0, .int .i64 0].toArray := by kernel_rfl
theorem bd42 : Tryz.prog.built 42 [] = some [.int .i64 0, .int .i64 0, .int .i64 0, .int .i64 0, .int .i64 0, .int .i64 0, .int .i64 0, .int .i64 0, .int .i64 0, .int .i64 0, .int .i64 0, .int .i64 0, .int .i64 0, .int .i64 0, .slice none 0 0, .slice none 0 0, .slice none 0 0, .slice none 0 0, .slice none 0 0].toArray := by kernel_rfl
theorem en188 : enterB Tryz.prog 188 = true := by kernel_rfl
theorem en203 : enterB Tryz.prog 203 = true := by kernel_rfl
end Go.Proofs.YtgofolgogfmhgaaGreat.Wk
namespace Go.Proofs.YtgofolgogfmhgaaGreat.Wk
open Go Go.RowKit Sl
set_option linter.unusedVariables false
set_option linter.unusedSimpArgs false
set_option maxRecDepth 20000
def newCells (c : Config) : List Int := if c.ok then (List.replicate (cellCount c).toNat 0).set 0 1 else []
def zeroState : Sl.State := ⟨⟨0, 0, 0, 0, 0, 0⟩, [], [], [], 0, 0, 0, 0⟩
def newState (c : Config) : Sl.State := if c.ok then ⟨c, newCells c, List.replicate c.capacity.toNat 0, List.replicate c.threads.toNat default, 0, 0, 0, 0⟩ else zeroState
theorem _root_.Go.Proofs.YtgofolgogfmhgaaGreat.Sl.Sep.nilpart {α : Type} {ek : EK α} {x : α} {vs : List Slv} {w0 w : World} {l : List Res} (h : Sep w0 l w) (hin : Sat (ek.inner x vs) (fun _ => False) w) : Sep w0 (Part ek x vs :: l) w := h.new (Below.refl _ _) (hin.mono (fun k hk => hk.elim))
theorem nil_sat {α : Type} (ek : EK α) {l : List Res} {w : World} (h : Sat l (fun _ => False) w) : Sat (Own ek (sv (none, 0, 0)) [] :: l) (fun _ => False) w := Sat.cons (S1 := fun _ => False) (S' := fun _ => False) h (own_nil ek _ w) (fun k hk => hk) (fun k hk => hk) (fun k hk _ => hk)
theorem state_inner0 (w : World) : Sat (stateEK.inner zeroState []) (fun _ => False) w := nil_sat intEK (nil_sat intEK (nil_sat threadEK (Sat.nil _ _)))
theorem newCells_len {c : Config} (h : c.ok) : (newCells c).length = (cellCount c).toNat := by unfold newCells; rw [if_pos h]; simp
theorem rep_nx {α : Type} (k : Nat) (x : α) : List.replicate k x ++ [x] = List.replicate (k + 1) x := List.replicate_succ'.symm
theorem newState_size {c : Config} : (newState c).size ≤ 200 := by
 unfold newState
 split
 · rename_i hok
   have hc := newCells_len hok
   have hb := hok
   unfold Config.ok at hb
   have hcc := cellCount_eq hok
   have hz : ∀ n : Nat, crow Sl.Thread.size (List.replicate n default) = 0 := fun n => by
     induction n with
     | zero => rfl
     | succ n ih => rw [List.replicate_succ]; simp only [crow, ih]; rfl
   unfold Sl.State.size
   simp only [List.length_replicate, hz, hc]
   omega
 · unfold zeroState Sl.State.size; simp [crow]
theorem thread0_wf : (default : Sl.Thread).wf := ⟨int64_zero, ⟨int64_zero, int64_zero, int64_zero⟩, ⟨int64_zero, int64_zero⟩, int64_zero, int64_zero, int64_zero, int64_zero, int64_zero, int64_zero, int64_zero, int64_zero, (fun _ h => by cases h), (fun _ h => by cases h), (fun _ h => by cases h), (fun _ h => by cases h), (fun _ h => by cases h)⟩
theorem ok_cwf {c : Config} (h : c.ok) : c.wf := by
 unfold Config.ok at h; refine ⟨?_, ?_, ?_, ?_, ?_, ?_⟩ <;> (unfold int64; omega)
theorem newCells_wf {c : Config} : ∀ x ∈ newCells c, int64 x := by
 unfold newCells
 split
 · intro x hx
   rcases List.mem_or_eq_of_mem_set hx with h | h
   · rw [(List.mem_replicate.1 h).2]; exact int64_zero
   · subst h; unfold int64; omega
 · intro x hx; cases hx
theorem new_eq {c : Config} (h : c.ok) : newState c = ⟨c, newCells c, List.replicate c.capacity.toNat 0, List.replicate c.threads.toNat default, 0, 0, 0, 0⟩ := if_pos h
theorem good_new {c : Config} (h : c.ok) : Good (newState c) := by
 have hb := h; unfold Config.ok at hb
 have hcc := cellCount_eq h
 have hcl := newCells_len h
 have hz := newState_size (c := c)
 refine ⟨?_, ?_, by omega, ?_⟩ <;> rw [new_eq h] <;> try dsimp only
 · refine ⟨h, ?_, ?_, ?_⟩ <;> dsimp only
   · rw [hcl]; omega
   · rw [List.length_replicate]; omega
   · rw [List.length_replicate]; omega
 · refine ⟨ok_cwf h, newCells_wf, ?_, ?_, int64_zero, int64_zero, int64_zero, int64_zero⟩
   · intro x hx; rw [(List.mem_replicate.1 hx).2]; exact int64_zero
   · intro x hx; rw [(List.mem_replicate.1 hx).2]; exact thread0_wf
 · intro t ht; rw [(List.mem_replicate.1 ht).2]; intro h0; exact absurd h0 (by decide)
theorem specNewCells_c {W : World} (c : Config) : Calls Tryz.prog 188 #[.agg c.enc.toArray] W (Ret (Mk W (fun z : Slv => sv z) (fun z => [Own intEK (sv z) (newCells c)]))) := by
 refine calls_fr Tryz.func188 rfl Tryz.ntmps188 rfl ?_
 intro a hF
 have hS := Sep.refl W
 refine ws fun K1 hK1 => ?_
 refine wl_box (cs := [_, _, _, _, _, _]) hF hS rfl (hF.ev rfl) rfl fun g1 w1 a hS _ hF => ?_
 refine ge hK1 hF rfl fun a hF => ?_
 refine wp_seq_k fun K2 hK2 => ?_
 refine ws fun K3 hK3 => ?_
 refine gb 1 0 hF hS rfl rfl rfl fun a hF => ?_
 refine ckr hF hS rfl (specIsConfig_c _) fun w2 a hS hF => ?_
 refine ge hK3 hF rfl fun a hF => ?_
 refine cx 6 hF rfl (fun c6 hF => ?_) fun c6 hF => ?_
 ·
  refine ws fun K4 hK4 => ?_
  refine wl_bslice intEK [] [] rfl hF hS rfl mk26 rfl trivial rfl rfl rfl rfl fun gl_7 w3 a hS hF => ?_
  refine ge hK4 hF rfl fun a hF => ?_
  refine wp_ret ?_
  refine xt ?_
  first
    | (refine ret1 rfl hF rfl ⟨(_, _, _), rfl, ?_⟩; rw [show newCells c = [] from if_neg c6]; exact hS.pick [0] (by decide) rfl)
    | (refine ret1 rfl hF rfl ⟨(_, _, _), rfl, ?_⟩; rw [show newCells c = _ from if_pos c6]; exact hS.pick [99] (by decide) rfl)
 have hb := c6; unfold Config.ok at hb
 have hcc := cellCount_eq c6
 refine wp_skip ?_
 refine hK2 _ _ ?_
 refine ws fun K5 hK5 => ?_
 refine gb 1 0 hF hS rfl rfl rfl fun a hF => ?_
 refine ckr hF hS rfl (specCellCount_c _) fun w4 a hS hF => ?_
 refine wl_make intEK 0 [] hF hS rfl mk26 rfl (fun _ => Sat.nil _ _) ((hF.ev rfl).trans (show vi (cellCount c) = Value.int .i64 ((Int.toNat (cellCount c) : Nat) : Int) from by rw [Int.toNat_of_nonneg (by omega)])) (by omega) (by unfold maxLen; omega) fun gm_10 w5 a hS hF => ?_
 refine ge hK5 hF rfl fun a hF => ?_
 refine ws fun K6 hK6 => ?_
 refine ga 1 hF rfl fun a hF => ?_
 refine wl_call hF rfl rfl rfl (r_call0 en203 ) (specClockCell_c) ?_; rintro v w6 a ⟨rfl, hB_⟩ hF; have hS := hS.ext hB_
 obtain ⟨g13, o13, m13, q13, hv13, hm13, hl13, hc13⟩ := Rd.atF ((hS.own_rd (i := 0) rfl)) (a := a) (X := .tmp 12) (hF.ev rfl) (by omega) (by simp; omega)
 refine wl hF rfl rfl rfl (r_index sl26 ((hF.ev rfl).trans hv13) (hF.ev rfl) (by omega) (by first | omega | (simp at hm13; omega))) fun a hF => ?_
 refine wl_istore (q := 0) hF hS rfl hv13 (by omega) (by omega) sz3 (hF.ev rfl) rfl ec fun w7 hS => ?_; dsimp only [List.set] at hS
 refine wl_nil (hK6 _ _ ?_)
 refine rg hF rfl fun a hF => ?_
 refine wp_ret ?_
 refine xt ?_
 first
   | (refine ret1 rfl hF rfl ⟨(_, _, _), rfl, ?_⟩; rw [show newCells c = [] from if_neg c6]; exact hS.pick [99] (by decide) rfl)
   | (refine ret1 rfl hF rfl ⟨(_, _, _), rfl, ?_⟩; rw [show newCells c = _ from if_pos c6]; exact hS.pick [0] (by decide) rfl)
theorem specNewState_c {W : World} (c : Config) : Calls Tryz.prog 158 #[.agg c.enc.toArray] W (Ret (Mk W (fun vs => .agg (stateEK.cells (newState c) vs).toArray) (fun vs => [Part stateEK (newState c) vs]))) := by
 refine calls_fr Tryz.func158 rfl Tryz.ntmps158 rfl ?_
 intro a hF
 have hS := Sep.refl W
 refine ws fun K1 hK1 => ?_
 refine wl_box (cs := [_, _, _, _, _, _]) hF hS rfl (hF.ev rfl) rfl fun g1 w1 a hS _ hF => ?_
 refine wl_alloc hF hS rfl zr29 fun g2 w2 a hS _ hF => ?_
 refine wl_nil (hK1 _ _ ?_)
 refine wp_seq_k fun K2 hK2 => ?_
 refine ws fun K3 hK3 => ?_
 refine gb 1 1 hF hS rfl rfl rfl fun a hF => ?_
 refine ckr hF hS rfl (specIsConfig_c _) fun w3 a hS hF => ?_
 refine ge hK3 hF rfl fun a hF => ?_
 refine cx 7 hF rfl (fun c7 hF => ?_) fun c7 hF => ?_
 ·
  refine ws fun K4 hK4 => ?_
  refine wl hF rfl rfl rfl (r_build (bd29) trivial) fun a hF => ?_
  refine ww 0 hF hS rfl rfl rfl rfl rfl rfl fun w4 hS => ?_
  refine wl_nil (hK4 _ _ ?_)
  refine wp_ret ?_
  refine xt ?_
  first
    | (refine ret1c rfl ag29 hF hS (i := 0) rfl sz29 rfl ⟨[], ?_, ?_⟩
       · rw [show newState c = zeroState from if_neg c7]; rfl
       · rw [show newState c = zeroState from if_neg c7]; exact (Sep.nilpart (hS.pick [] (by decide) rfl) (state_inner0 _)))
    | (obtain rfl : k = c.threads.toNat := by omega
       have e : newState c = ⟨c, newCells c, List.replicate c.capacity.toNat 0, List.replicate c.threads.toNat default, 0, 0, 0, 0⟩ := if_pos c7
       refine ret1c rfl ag29 hF hS (i := 0) rfl sz29 rfl ⟨[s11, (some ⟨gm_14, 0, none⟩, c.capacity.toNat, c.capacity.toNat), q], ?_, ?_⟩
       · rw [e]; rfl
       · rw [e]; exact hS.part_of [99, 99, 99] (by decide) rfl)
 have hb := c7; unfold Config.ok at hb
 refine wp_skip ?_
 refine hK2 _ _ ?_
 refine wp_seq_k fun K5 hK5 => ?_
 refine wp_region_todo (is := [0, 1, 3, 4, 2, 5, 6, 8]) [(7, 3, [.int .i64 0, .int .i64 0, .int .i64 0, .int .i64 0, .int .i64 0, .int .i64 0, .slice none 0 0, .slice none 0 0, .slice none 0 0, .int .i64 0, .int .i64 0, .int .i64 0, .int .i64 0])] [8] (by kernel_rfl) hF hS ⟨⟨⟨_, _, _, rfl, zr29⟩, trivial⟩, by decide, by decide, by decide⟩ (by kernel_rfl) ?_; intro hl_ wd hSd
 refine todo_load [6, 8] hl_ (by kernel_rfl) rfl (gw0 rfl) rfl rfl rfl (fun a w_ hF hB_ => r_loadn ag25 (hF.ev rfl) ((hSd.ext hB_).box_rd (i := 1) rfl) sz25) ?_
 refine todo_load [2, 6, 8] hl_ (by kernel_rfl) rfl (gw0 rfl) rfl rfl rfl (fun a w_ hF hB_ => r_loadn ag25 (hF.ev rfl) ((hSd.ext hB_).box_rd (i := 1) rfl) sz25) ?_
 refine todo_pure hl_ (by kernel_rfl) rfl (gw0 rfl) rfl rfl rfl (fun a w_ hF => r_field fo25_2 (hF.ev rfl)) ?_
 refine todo_load [5, 6, 8] hl_ (by kernel_rfl) rfl (gw0 rfl) rfl rfl rfl (fun a w_ hF hB_ => r_load1 sc3 (hF.ev rfl) ((hSd.ext hB_).box (i := 1) rfl rfl)) ?_
 refine todo_fork [(2, [5, 6, 8]), (5, [2, 6, 8])] hl_ rfl (by kernel_rfl) (List.forall_mem_cons.2 ⟨?_, List.forall_mem_cons.2 ⟨?_, fun _ h_ => nomatch h_⟩⟩)
 ·
  refine op_mk rfl rfl (gw0 rfl) rfl rfl rfl (fun a w_ hF => r_call1 en188 (hF.ev rfl)) (fun w_ hS => specNewCells_c _) ?_; rintro s11
  refine todo_op hl_ rfl (by kernel_rfl) rfl rfl rfl rfl rfl (fun a w_ hF hS => r_make0 intEK 0 [] mk26 rfl (fun _ => Sat.nil _ _) ((hF.ev rfl).trans (show vi (c.capacity) = Value.int .i64 ((Int.toNat (c.capacity) : Nat) : Int) from by rw [Int.toNat_of_nonneg (by omega)])) (by omega) (by unfold maxLen; omega)) ?_; intro gm_14
  refine todo_pure hl_ (by kernel_rfl) rfl (gw0 rfl) rfl rfl rfl (fun a w_ hF => r_build (bd29_0_1_2 _ _ _ _ _ _ _ _ _ _ _ _) ⟨rfl, (hF.ev rfl), rfl, (hF.ev rfl), rfl, (hF.ev rfl), trivial⟩) ?_
  refine todo_fin hl_ rfl (by kernel_rfl) (tl := [_]) rfl ?_; intro a w6 hF hA_
  obtain ⟨g3, hS, he_0⟩ := hA_.open1; clear hA_
  replace hF := hF.more he_0; clear he_0
  clear hl_; try clear hSd
  try dsimp only [List.cons_append, List.nil_append, List.set] at hS
  try clear wd
  refine ww 0 hF hS rfl rfl rfl rfl rfl rfl fun w7 hS => ?_
  refine wl_nil ⟨rfl, ?_⟩
  refine hK5 _ _ ?_
  refine wp_seq_k fun K6 hK6 => ?_
  refine rg hF rfl fun a hF => ?_
  refine wp_block ?_
  replace hS := hS.own_nil threadEK
  replace hS := hS.pull (p := 1) rfl; dsimp only [List.eraseIdx] at hS
  replace hS := hS.pull (p := 1) rfl; dsimp only [List.eraseIdx] at hS
  have hL_ := (((hF.nil.keep hF (t := 3) rfl).keep hF (t := 2) rfl).keep hF (t := 1) rfl)
  refine wp_loop_m (σ := Nat × Slv) (fun z L_ => (4, vi z.1) :: L_) (fun z l_ => (Own threadEK (sv z.2) (List.replicate z.1 default)) :: (Box g3 [vi c.threads, vi c.keys, vi c.capacity, vi c.batch, vi c.policy, vi c.clockMax, sv s11, .slice (some ⟨gm_14, 0, none⟩) c.capacity.toNat c.capacity.toNat, sv z.2, vi 0, vi 0, vi 0, vi 0]) :: l_) (fun z => ((z.1 : Int) ≤ c.threads)) (fun z => c.threads.toNat - z.1) (0, (none, 0, 0)) (hS) (hL_.keepE hF (t := 4) rfl rfl) ?_ ?_
  · exact by dsimp only; omega
  rintro ⟨k, q⟩ a w8 hk hS hF; try dsimp only at hF; try dsimp only at hS; try dsimp only at hk
  refine wp_seq_k fun K8 hK8 => ?_
  refine rh 5 hF hS rfl rfl rfl fun a hF => ?_
  refine cx 19 hF rfl (fun c19 hF => ?_) fun c19 hF => ?_
  ·
   refine wp_skip ?_
   refine hK8 _ _ ?_
   refine wp_seq_k fun K10 hK10 => ?_
   refine wp_block ?_
   refine wp_region_lit ?_
   refine gb 2 1 hF hS rfl rfl rfl fun a hF => ?_
   refine wl hF rfl rfl rfl (r_build (bd42) trivial) fun a hF => ?_
   replace hS := hS.nilpart (ek := threadEK) (x := default) (vs := []) (thread_inner0 _)
   refine wl_bslice (rawEK threadEK.sz) [.agg (threadEK.cells (default) []).toArray] [raw threadEK (default) []] rfl hF hS rfl mk27 rfl ⟨rfl, (hF.ev rfl), trivial⟩ rfl rfl rfl rfl fun gl_25 w9 a hS hF => ?_
   have hu_ := hS.own_rd (i := 0) rfl
   replace hS := hS.pull (p := 1) rfl; dsimp only [List.eraseIdx] at hS
   replace hS := hS.pull (p := 2) rfl; dsimp only [List.eraseIdx] at hS
   refine wl_appendn (ek := threadEK) hF hS rfl hu_ mk27 rfl (hF.ev rfl) (hF.ev rfl) (by simp; omega) (by unfold maxLen; simp; omega) ?_; clear hF a hu_; intro A_26 c_26 w10 a hS_ hF; replace hS := hS_; clear hS_
   refine ga 1 hF rfl fun a hF => ?_
   refine wv 2 hF hS rfl rfl rfl rfl rfl rfl fun w11 hS => ?_
   refine wl_nil ?_
   refine xt ?_
   refine hK10 _ _ ?_
   refine rl hF rfl fun a hF => ?_
   refine xt ?_
   rw [rep_nx] at hS
   refine ⟨(k + 1, (_, _, _)), (by dsimp only; omega), (hS.pick [0, 2, 3, 4, 5, 6] (by decide) rfl), ((((hF.nil.keep hF (t := 3) rfl).keep hF (t := 2) rfl).keep hF (t := 1) rfl).keepE hF (t := 4) rfl (wk (by omega))), by dsimp only; omega⟩
  refine wp_exit ?_
  refine xt ?_
  refine hK6 _ _ ?_
  refine ws fun K11 hK11 => ?_
  refine gb 1 1 hF hS rfl rfl rfl fun a hF => ?_
  refine ww 4 hF hS rfl rfl rfl rfl rfl rfl fun w12 hS => ?_
  refine wl_nil (hK11 _ _ ?_)
  refine wp_ret ?_
  refine xt ?_
  first
    | (refine ret1c rfl ag29 hF hS (i := 4) rfl sz29 rfl ⟨[], ?_, ?_⟩
       · rw [show newState c = zeroState from if_neg c7]; rfl
       · rw [show newState c = zeroState from if_neg c7]; exact (Sep.nilpart (hS.pick [] (by decide) rfl) (state_inner0 _)))
    | (obtain rfl : k = c.threads.toNat := by omega
       have e : newState c = ⟨c, newCells c, List.replicate c.capacity.toNat 0, List.replicate c.threads.toNat default, 0, 0, 0, 0⟩ := if_pos c7
       refine ret1c rfl ag29 hF hS (i := 4) rfl sz29 rfl ⟨[s11, (some ⟨gm_14, 0, none⟩, c.capacity.toNat, c.capacity.toNat), q], ?_, ?_⟩
       · rw [e]; rfl
       · rw [e]; exact hS.part_of [3, 2, 0] (by decide) rfl)
 ·
  refine op_op rfl rfl (gw0 rfl) rfl rfl rfl (fun a w_ hF hS => r_make0 intEK 0 [] mk26 rfl (fun _ => Sat.nil _ _) ((hF.ev rfl).trans (show vi (c.capacity) = Value.int .i64 ((Int.toNat (c.capacity) : Nat) : Int) from by rw [Int.toNat_of_nonneg (by omega)])) (by omega) (by unfold maxLen; omega)) ?_; intro gm_14
  refine todo_mk hl_ rfl (by kernel_rfl) rfl rfl rfl rfl rfl (fun a w_ hF => r_call1 en188 (hF.ev rfl)) (fun w_ hS => specNewCells_c _) ?_; rintro s11
  refine todo_pure hl_ (by kernel_rfl) rfl (gw0 rfl) rfl rfl rfl (fun a w_ hF => r_build (bd29_0_1_2 _ _ _ _ _ _ _ _ _ _ _ _) ⟨rfl, (hF.ev rfl), rfl, (hF.ev rfl), rfl, (hF.ev rfl), trivial⟩) ?_
  refine todo_fin hl_ rfl (by kernel_rfl) (tl := [_]) rfl ?_; intro a w14 hF hA_
  obtain ⟨g3, hS, he_0⟩ := hA_.open1; clear hA_
  replace hF := hF.more he_0; clear he_0
  clear hl_; try clear hSd
  try dsimp only [List.cons_append, List.nil_append, List.set] at hS
  try clear wd
  refine ww 0 hF hS rfl rfl rfl rfl rfl rfl fun w15 hS => ?_
  refine wl_nil ⟨rfl, ?_⟩
  refine hK5 _ _ ?_
  refine wp_seq_k fun K12 hK12 => ?_
  refine rg hF rfl fun a hF => ?_
  refine wp_block ?_
  replace hS := hS.own_nil threadEK
  replace hS := hS.pull (p := 1) rfl; dsimp only [List.eraseIdx] at hS
  replace hS := hS.pull (p := 1) rfl; dsimp only [List.eraseIdx] at hS
  have hL_ := (((hF.nil.keep hF (t := 3) rfl).keep hF (t := 2) rfl).keep hF (t := 1) rfl)
  refine wp_loop_m (σ := Nat × Slv) (fun z L_ => (4, vi z.1) :: L_) (fun z l_ => (Own threadEK (sv z.2) (List.replicate z.1 default)) :: (Box g3 [vi c.threads, vi c.keys, vi c.capacity, vi c.batch, vi c.policy, vi c.clockMax, sv s11, .slice (some ⟨gm_14, 0, none⟩) c.capacity.toNat c.capacity.toNat, sv z.2, vi 0, vi 0, vi 0, vi 0]) :: l_) (fun z => ((z.1 : Int) ≤ c.threads)) (fun z => c.threads.toNat - z.1) (0, (none, 0, 0)) (hS) (hL_.keepE hF (t := 4) rfl rfl) ?_ ?_
  · exact by dsimp only; omega
  rintro ⟨k, q⟩ a w16 hk hS hF; try dsimp only at hF; try dsimp only at hS; try dsimp only at hk
  refine wp_seq_k fun K14 hK14 => ?_
  refine rh 5 hF hS rfl rfl rfl fun a hF => ?_
  refine cx 19 hF rfl (fun c19 hF => ?_) fun c19 hF => ?_
  ·
   refine wp_skip ?_
   refine hK14 _ _ ?_
   refine wp_seq_k fun K16 hK16 => ?_
   refine wp_block ?_
   refine wp_region_lit ?_
   refine gb 2 1 hF hS rfl rfl rfl fun a hF => ?_
   refine wl hF rfl rfl rfl (r_build (bd42) trivial) fun a hF => ?_
   replace hS := hS.nilpart (ek := threadEK) (x := default) (vs := []) (thread_inner0 _)
   refine wl_bslice (rawEK threadEK.sz) [.agg (threadEK.cells (default) []).toArray] [raw threadEK (default) []] rfl hF hS rfl mk27 rfl ⟨rfl, (hF.ev rfl), trivial⟩ rfl rfl rfl rfl fun gl_25 w17 a hS hF => ?_
   have hu_ := hS.own_rd (i := 0) rfl
   replace hS := hS.pull (p := 1) rfl; dsimp only [List.eraseIdx] at hS
   replace hS := hS.pull (p := 2) rfl; dsimp only [List.eraseIdx] at hS
   refine wl_appendn (ek := threadEK) hF hS rfl hu_ mk27 rfl (hF.ev rfl) (hF.ev rfl) (by simp; omega) (by unfold maxLen; simp; omega) ?_; clear hF a hu_; intro A_26 c_26 w18 a hS_ hF; replace hS := hS_; clear hS_
   refine ga 1 hF rfl fun a hF => ?_
   refine wv 2 hF hS rfl rfl rfl rfl rfl rfl fun w19 hS => ?_
   refine wl_nil ?_
   refine xt ?_
   refine hK16 _ _ ?_
   refine rl hF rfl fun a hF => ?_
   refine xt ?_
   rw [rep_nx] at hS
   refine ⟨(k + 1, (_, _, _)), (by dsimp only; omega), (hS.pick [0, 2, 3, 4, 5, 6] (by decide) rfl), ((((hF.nil.keep hF (t := 3) rfl).keep hF (t := 2) rfl).keep hF (t := 1) rfl).keepE hF (t := 4) rfl (wk (by omega))), by dsimp only; omega⟩
  refine wp_exit ?_
  refine xt ?_
  refine hK12 _ _ ?_
  refine ws fun K17 hK17 => ?_
  refine gb 1 1 hF hS rfl rfl rfl fun a hF => ?_
  refine ww 4 hF hS rfl rfl rfl rfl rfl rfl fun w20 hS => ?_
  refine wl_nil (hK17 _ _ ?_)
  refine wp_ret ?_
  refine xt ?_
  first
    | (refine ret1c rfl ag29 hF hS (i := 4) rfl sz29 rfl ⟨[], ?_, ?_⟩
       · rw [show newState c = zeroState from if_neg c7]; rfl
       · rw [show newState c = zeroState from if_neg c7]; exact (Sep.nilpart (hS.pick [] (by decide) rfl) (state_inner0 _)))
    | (obtain rfl : k = c.threads.toNat := by omega
       have e : newState c = ⟨c, newCells c, List.replicate c.capacity.toNat 0, List.replicate c.threads.toNat default, 0, 0, 0, 0⟩ := if_pos c7
       refine ret1c rfl ag29 hF hS (i := 4) rfl sz29 rfl ⟨[s11, (some ⟨gm_14, 0, none⟩, c.capacity.toNat, c.capacity.toNat), q], ?_, ?_⟩
       · rw [e]; rfl
       · rw [e]; exact hS.part_of [2, 3, 0] (by decide) rfl)
end Go.Proofs.YtgofolgogfmhgaaGreat.Wk
namespace Go.Proofs.YtgofolgogfmhgaaGreat.Wk
open Go Go.RowKit Sl
set_option linter.unusedVariables false
set_option linter.unusedSimpArgs false
set_option maxRecDepth 20000
theorem pcs_int {x : Int} (h : x ∈ pcs) : int64 x := by
 unfold pcs at h; simp only [List.mem_cons, List.not_mem_nil, or_false] at h; unfold int64; omega
theorem ok_opwf {o : Sl.Op} (h : o.ok) : o.wf := by
 unfold Sl.Op.ok at h; refine ⟨?_, ?_, ?_⟩ <;> (unfold int64; omega)
theorem l7Thread_h {W : World} {g : Nat} {vb : Value} {bs : List Int} (hbs : byteEK.Rd W vb bs) {l : List Res} {w : World} (hS : Sep W (Cur g vb bs.length :: l) w) : Calls Tryz.prog 179 #[.pointer (some ⟨g, 0, none⟩)] w (Ret fun v w' => ∃ z : Sl.Thread × List Slv, (v = .agg (threadEK.cells z.1 z.2).toArray ∧ z.1.wf ∧ z.1.size ≤ 60 ∧ 0 ≤ z.1.seen) ∧ Sep W (Part threadEK z.1 z.2 :: Cur g vb bs.length :: l) w') := by
 refine calls_fr Tryz.func179 rfl Tryz.ntmps179 rfl ?_
 intro a hF
 refine ws fun K1 hK1 => ?_
 refine wl_alloc hF hS rfl zr42 fun g1 w1 a hS _ hF => ?_
 refine wl_nil (hK1 _ _ ?_)
 refine ws fun K2 hK2 => ?_
 refine ga 1 hF rfl fun a hF => ?_
 refine wl_mk hF hS rfl rfl rfl (r_call0 en196 ) (l7Pcs_c) ?_; rintro s5 w2 a hS_ hF; replace hS := hS_; clear hS_; dsimp only [List.cons_append, List.nil_append] at hS
 have hln5 := hS.own_len (q := 0) rfl
 refine ck hF rfl (l1PickInt_c hbs (q := 2) (fun w_ hS => (hS.own_rd (i := 0) rfl)) (by decide) hS rfl) ?_; rintro v w3 a ⟨⟨x6, rfl, h6⟩, hS⟩ hF
 refine ga 1 hF rfl fun a hF => ?_
 refine ck hF rfl (l5Op_c hbs (q := 2) (by omega) hS rfl) ?_; rintro v w4 a ⟨⟨o8, rfl, h8⟩, hS⟩ hF
 refine ga 1 hF rfl fun a hF => ?_
 refine ck hF rfl (l1Below_c hbs (q := 2) _ hS rfl) ?_; rintro v w5 a ⟨⟨x10, rfl, h10⟩, hS⟩ hF
 refine ga 1 hF rfl fun a hF => ?_
 refine ck hF rfl (l2Handle_c hbs (q := 2) hS rfl) ?_; rintro v w6 a ⟨⟨x12, rfl, h12⟩, hS⟩ hF
 refine ga 1 hF rfl fun a hF => ?_
 refine ck hF rfl (l1Below_c hbs (q := 2) _ hS rfl) ?_; rintro v w7 a ⟨⟨x14, rfl, h14⟩, hS⟩ hF
 refine wl hF rfl rfl rfl (r_build (bd42_0_1_3_6_8 _ _ _ _ _ _ _) ⟨rfl, (hF.ev rfl), rfl, (hF.ev rfl), rfl, (hF.ev rfl), rfl, (hF.ev rfl), rfl, (hF.ev rfl), trivial⟩) fun a hF => ?_
 refine wl_alloc hF hS rfl zr42 fun g2 w8 a hS _ hF => ?_
 refine ww 0 hF hS rfl rfl rfl rfl rfl rfl fun w9 hS => ?_
 refine wl_nil (hK2 _ _ ?_)
 refine wp_cut (fun a w => ∃ (bu : List Entry) (qb : Slv), ((∀ x ∈ bu, x.wf) ∧ bu.length ≤ 10) ∧ Sep W (Own entryEK (sv qb) bu :: Box g2 [vi x6, vi o8.kind, vi o8.key, vi o8.value, vi 0, vi 0, vi x10, vi 0, vi 0, vi x12, vi 0, vi x14, vi 0, vi 0, .slice none 0 0, .slice none 0 0, sv qb, .slice none 0 0, .slice none 0 0] :: Box g1 [vi 0, vi 0, vi 0, vi 0, vi 0, vi 0, vi 0, vi 0, vi 0, vi 0, vi 0, vi 0, vi 0, vi 0, .slice none 0 0, .slice none 0 0, .slice none 0 0, .slice none 0 0, .slice none 0 0] :: Cur g vb bs.length :: l) w ∧ Fr 58 [(0, .pointer (some ⟨g, 0, none⟩)), (2, .pointer (some ⟨g1, 0, none⟩)), (3, .pointer (some ⟨g2, 0, none⟩))] a) ?_ ?_
 ·
  refine ws fun K3 hK3 => ?_
  refine ga 1 hF rfl fun a hF => ?_
  refine ck hF rfl (l1Once_c hbs (q := 3) _ hS rfl) ?_; rintro v w10 a ⟨⟨b17, rfl⟩, hS⟩ hF
  refine wl_nil (hK3 _ _ ?_)
  refine cx 17 hF rfl (fun c17 hF => ?_) fun c17 hF => ?_
  ·
   refine wp_region_lit ?_
   refine ga 1 hF rfl fun a hF => ?_
   replace hS := hS.pull (p := 3) rfl; dsimp only [List.eraseIdx] at hS
   refine ck hF rfl (l6Entries_h hbs hS) ?_; rintro v w11 a ⟨⟨xs19, q19⟩, ⟨rfl, hx19, hn19⟩, hS⟩ hF
   try dsimp only at hz19
   refine ga 1 hF rfl fun a hF => ?_
   refine wv 2 hF hS rfl rfl rfl rfl rfl rfl fun w12 hS => ?_
   refine wl_nil ?_
   refine xt ?_
   dsimp only at hx19 hn19
   exact ⟨xs19, q19, ⟨hx19, hn19⟩, Sep.headp (A := [_, _, _, _, _]) (B := [_, _, _, _]) hS [0, 2, 4, 1] (by decide) rfl rfl, (((hF.nil.keepE hF (t := 3) rfl rfl).keepE hF (t := 2) rfl rfl).keepE hF (t := 0) rfl rfl)⟩
  refine wp_skip ?_
  refine xt ?_
  replace hS := hS.own_nil entryEK
  exact ⟨[], (none, 0, 0), ⟨(fun _ h => by cases h), by simp⟩, Sep.headp (A := [_, _, _, _, _]) (B := [_, _, _, _]) hS [0, 1, 3, 4] (by decide) rfl rfl, (((hF.nil.keepE hF (t := 3) rfl rfl).keepE hF (t := 2) rfl rfl).keepE hF (t := 0) rfl rfl)⟩
 rintro a w13 ⟨bu, qb, ⟨hxb, hnb⟩, hS, hF⟩
 refine wp_cut (fun a w => ∃ (fr : List Int) (qf : Slv), ((∀ x ∈ fr, int64 x) ∧ fr.length ≤ 10) ∧ Sep W (Own intEK (sv qf) fr :: Own entryEK (sv qb) bu :: Box g2 [vi x6, vi o8.kind, vi o8.key, vi o8.value, vi 0, vi 0, vi x10, vi 0, vi 0, vi x12, vi 0, vi x14, vi 0, vi 0, .slice none 0 0, sv qf, sv qb, .slice none 0 0, .slice none 0 0] :: Box g1 [vi 0, vi 0, vi 0, vi 0, vi 0, vi 0, vi 0, vi 0, vi 0, vi 0, vi 0, vi 0, vi 0, vi 0, .slice none 0 0, .slice none 0 0, .slice none 0 0, .slice none 0 0, .slice none 0 0] :: Cur g vb bs.length :: l) w ∧ Fr 58 [(0, .pointer (some ⟨g, 0, none⟩)), (2, .pointer (some ⟨g1, 0, none⟩)), (3, .pointer (some ⟨g2, 0, none⟩))] a) ?_ ?_
 ·
  refine ws fun K4 hK4 => ?_
  refine ga 1 hF rfl fun a hF => ?_
  refine ck hF rfl (l1Once_c hbs (q := 3) _ hS rfl) ?_; rintro v w14 a ⟨⟨b22, rfl⟩, hS⟩ hF
  refine wl_nil (hK4 _ _ ?_)
  refine cx 22 hF rfl (fun c22 hF => ?_) fun c22 hF => ?_
  ·
   refine wp_region_lit ?_
   refine ga 1 hF rfl fun a hF => ?_
   replace hS := hS.pull (p := 3) rfl; dsimp only [List.eraseIdx] at hS
   refine ck hF rfl (l6Stamps_h hbs hS) ?_; rintro v w15 a ⟨⟨xs24, q24⟩, ⟨rfl, hx24, hn24⟩, hS⟩ hF
   try dsimp only at hz24
   refine ga 1 hF rfl fun a hF => ?_
   refine wv 3 hF hS rfl rfl rfl rfl rfl rfl fun w16 hS => ?_
   refine wl_nil ?_
   refine xt ?_
   dsimp only at hx24 hn24
   exact ⟨xs24, q24, ⟨hx24, hn24⟩, Sep.headp (A := [_, _, _, _, _]) (B := [_, _, _, _, _]) hS [0, 2, 3, 4, 1] (by decide) rfl rfl, (((hF.nil.keepE hF (t := 3) rfl rfl).keepE hF (t := 2) rfl rfl).keepE hF (t := 0) rfl rfl)⟩
  refine wp_skip ?_
  refine xt ?_
  replace hS := hS.own_nil intEK
  exact ⟨[], (none, 0, 0), ⟨(fun _ h => by cases h), by simp⟩, Sep.headp (A := [_, _, _, _, _]) (B := [_, _, _, _, _]) hS [0, 1, 2, 3, 4] (by decide) rfl rfl, (((hF.nil.keepE hF (t := 3) rfl rfl).keepE hF (t := 2) rfl rfl).keepE hF (t := 0) rfl rfl)⟩
 rintro a w17 ⟨fr, qf, ⟨hxf, hnf⟩, hS, hF⟩
 refine wp_cut (fun a w => ∃ (li : List Int) (qm : Slv), ((∀ x ∈ li, int64 x) ∧ li.length ≤ 10) ∧ Sep W (Own intEK (sv qm) li :: Own intEK (sv qf) fr :: Own entryEK (sv qb) bu :: Box g2 [vi x6, vi o8.kind, vi o8.key, vi o8.value, vi 0, vi 0, vi x10, vi 0, vi 0, vi x12, vi 0, vi x14, vi 0, vi 0, .slice none 0 0, sv qf, sv qb, .slice none 0 0, sv qm] :: Box g1 [vi 0, vi 0, vi 0, vi 0, vi 0, vi 0, vi 0, vi 0, vi 0, vi 0, vi 0, vi 0, vi 0, vi 0, .slice none 0 0, .slice none 0 0, .slice none 0 0, .slice none 0 0, .slice none 0 0] :: Cur g vb bs.length :: l) w ∧ Fr 58 [(0, .pointer (some ⟨g, 0, none⟩)), (2, .pointer (some ⟨g1, 0, none⟩)), (3, .pointer (some ⟨g2, 0, none⟩))] a) ?_ ?_
 ·
  refine ws fun K5 hK5 => ?_
  refine ga 1 hF rfl fun a hF => ?_
  refine ck hF rfl (l1Once_c hbs (q := 4) _ hS rfl) ?_; rintro v w18 a ⟨⟨b27, rfl⟩, hS⟩ hF
  refine wl_nil (hK5 _ _ ?_)
  refine cx 27 hF rfl (fun c27 hF => ?_) fun c27 hF => ?_
  ·
   refine wp_region_lit ?_
   refine ga 1 hF rfl fun a hF => ?_
   replace hS := hS.pull (p := 4) rfl; dsimp only [List.eraseIdx] at hS
   refine ck hF rfl (l6Stamps_h hbs hS) ?_; rintro v w19 a ⟨⟨xs29, q29⟩, ⟨rfl, hx29, hn29⟩, hS⟩ hF
   try dsimp only at hz29
   refine ga 1 hF rfl fun a hF => ?_
   refine wv 4 hF hS rfl rfl rfl rfl rfl rfl fun w20 hS => ?_
   refine wl_nil ?_
   refine xt ?_
   dsimp only at hx29 hn29
   exact ⟨xs29, q29, ⟨hx29, hn29⟩, Sep.headp (A := [_, _, _, _, _, _]) (B := [_, _, _, _, _, _]) hS [0, 2, 3, 4, 5, 1] (by decide) rfl rfl, (((hF.nil.keepE hF (t := 3) rfl rfl).keepE hF (t := 2) rfl rfl).keepE hF (t := 0) rfl rfl)⟩
  refine wp_skip ?_
  refine xt ?_
  replace hS := hS.own_nil intEK
  exact ⟨[], (none, 0, 0), ⟨(fun _ h => by cases h), by simp⟩, Sep.headp (A := [_, _, _, _, _, _]) (B := [_, _, _, _, _, _]) hS [0, 1, 2, 3, 4, 5] (by decide) rfl rfl, (((hF.nil.keepE hF (t := 3) rfl rfl).keepE hF (t := 2) rfl rfl).keepE hF (t := 0) rfl rfl)⟩
 rintro a w21 ⟨li, qm, ⟨hxm, hnm⟩, hS, hF⟩
 refine wp_seq_k fun K6 hK6 => ?_
 refine ws fun K7 hK7 => ?_
 refine ga 1 hF rfl fun a hF => ?_
 refine ck hF rfl (l1Below_c hbs (q := 5) _ hS rfl) ?_; rintro v w22 a ⟨⟨x32, rfl, h32⟩, hS⟩ hF
 refine wl_nil (hK7 _ _ ?_)
 refine wp_block ?_
 refine rg hF rfl fun a hF => ?_
 refine cx 33 hF rfl (fun c33 hF => ?_) fun c33 hF => ?_
 ·
  refine wp_region_lit ?_
  refine ga 1 hF rfl fun a hF => ?_
  refine wl_bslice intEK [vi (-1), vi 6, vi 22, vi 81] [-1, 6, 22, 81] rfl hF hS rfl mk26 rfl ⟨rfl, ec, rfl, ec, rfl, ec, rfl, ec, trivial⟩ rfl rfl rfl rfl fun gl_36 w23 a hS hF => ?_
  refine ck hF rfl (l1PickInt_c hbs (q := 6) (fun w_ hS => (hS.own_rd (i := 0) rfl)) (by decide) hS rfl) ?_; rintro v w24 a ⟨⟨x37, rfl, h37⟩, hS⟩ hF
  refine ga 1 hF rfl fun a hF => ?_
  refine wv 4 hF hS rfl rfl rfl rfl rfl rfl fun w25 hS => ?_
  refine wl_nil ?_
  refine xt ?_
  refine hK6 _ _ ?_
  refine ws fun K9 hK9 => ?_
  refine gb 1 4 hF hS rfl rfl rfl fun a hF => ?_
  refine ww 5 hF hS rfl rfl rfl rfl rfl rfl fun w26 hS => ?_
  refine wl_nil (hK9 _ _ ?_)
  refine wp_ret ?_
  refine xt ?_
  simp only [List.mem_cons, List.not_mem_nil, or_false] at h37
  have hT := hS
  replace hT := hT.own_nil entryEK
  replace hT := hT.own_nil intEK
  replace hT := Sep.headp (A := [_, _, _, _, _, _, _, _, _]) (B := [_, _, _, _, _, _]) hT [0, 4, 5, 1, 3, 8] (by decide) rfl rfl
  refine ret1c rfl ag42 hF hS (i := 5) rfl sz42 rfl ⟨((⟨x37, o8, ⟨0, 0⟩, x10, 0, 0, x12, 0, x14, 0, 0, [], fr, bu, [], li⟩ : Sl.Thread), [(none, 0, 0), qf, qb, (none, 0, 0), qm]), ⟨rfl, ⟨(by unfold int64; dsimp only; omega), ok_opwf h8, ⟨int64_zero, int64_zero⟩, (by unfold int64; dsimp only; omega), int64_zero, int64_zero, h12, int64_zero, (by unfold int64; dsimp only; omega), int64_zero, int64_zero, (fun _ h => by cases h), hxf, hxb, (fun _ h => by cases h), hxm⟩, ?_, by dsimp only; omega⟩, ?_⟩
  · unfold Sl.Thread.size; simp only [List.length_nil]; omega
  · exact Sep.part_mk (ek := threadEK) (x := (⟨x37, o8, ⟨0, 0⟩, x10, 0, 0, x12, 0, x14, 0, 0, [], fr, bu, [], li⟩ : Sl.Thread)) (vs := [(none, 0, 0), qf, qb, (none, 0, 0), qm]) hT rfl
 refine rg hF rfl fun a hF => ?_
 refine cx 39 hF rfl (fun c39 hF => ?_) fun c39 hF => ?_
 ·
  refine wp_region_lit ?_
  refine ga 1 hF rfl fun a hF => ?_
  replace hS := hS.pull (p := 5) rfl; dsimp only [List.eraseIdx] at hS
  refine ck hF rfl (l6Stamps_h hbs hS) ?_; rintro v w27 a ⟨⟨xs42, q42⟩, ⟨rfl, hx42, hn42⟩, hS⟩ hF
  try dsimp only at hz42
  refine ga 1 hF rfl fun a hF => ?_
  refine wv 5 hF hS rfl rfl rfl rfl rfl rfl fun w28 hS => ?_
  refine wl_nil ?_
  refine xt ?_
  refine hK6 _ _ ?_
  refine ws fun K11 hK11 => ?_
  refine gb 1 5 hF hS rfl rfl rfl fun a hF => ?_
  refine ww 6 hF hS rfl rfl rfl rfl rfl rfl fun w29 hS => ?_
  refine wl_nil (hK11 _ _ ?_)
  refine wp_ret ?_
  refine xt ?_
  dsimp only at hx42 hn42
  have hT := hS
  replace hT := hT.own_nil entryEK
  replace hT := Sep.headp (A := [_, _, _, _, _, _, _, _]) (B := [_, _, _, _, _, _]) hT [1, 4, 5, 0, 3, 2] (by decide) rfl rfl
  refine ret1c rfl ag42 hF hS (i := 6) rfl sz42 rfl ⟨((⟨x6, o8, ⟨0, 0⟩, x10, 0, 0, x12, 0, x14, 0, 0, xs42, fr, bu, [], li⟩ : Sl.Thread), [q42, qf, qb, (none, 0, 0), qm]), ⟨rfl, ⟨(pcs_int h6), ok_opwf h8, ⟨int64_zero, int64_zero⟩, (by unfold int64; dsimp only; omega), int64_zero, int64_zero, h12, int64_zero, (by unfold int64; dsimp only; omega), int64_zero, int64_zero, hx42, hxf, hxb, (fun _ h => by cases h), hxm⟩, ?_, by dsimp only; omega⟩, ?_⟩
  · unfold Sl.Thread.size; simp only [List.length_nil]; omega
  · exact Sep.part_mk (ek := threadEK) (x := (⟨x6, o8, ⟨0, 0⟩, x10, 0, 0, x12, 0, x14, 0, 0, xs42, fr, bu, [], li⟩ : Sl.Thread)) (vs := [q42, qf, qb, (none, 0, 0), qm]) hT rfl
 refine rg hF rfl fun a hF => ?_
 refine cx 44 hF rfl (fun c44 hF => ?_) fun c44 hF => ?_
 ·
  refine wp_region_lit ?_
  refine ga 1 hF rfl fun a hF => ?_
  replace hS := hS.pull (p := 5) rfl; dsimp only [List.eraseIdx] at hS
  refine ck hF rfl (l6Entries_h hbs hS) ?_; rintro v w30 a ⟨⟨xs47, q47⟩, ⟨rfl, hx47, hn47⟩, hS⟩ hF
  try dsimp only at hz47
  refine ga 1 hF rfl fun a hF => ?_
  refine wv 5 hF hS rfl rfl rfl rfl rfl rfl fun w31 hS => ?_
  refine wl_nil ?_
  refine xt ?_
  refine hK6 _ _ ?_
  refine ws fun K13 hK13 => ?_
  refine gb 1 5 hF hS rfl rfl rfl fun a hF => ?_
  refine ww 6 hF hS rfl rfl rfl rfl rfl rfl fun w32 hS => ?_
  refine wl_nil (hK13 _ _ ?_)
  refine wp_ret ?_
  refine xt ?_
  dsimp only at hx47 hn47
  have hT := hS
  replace hT := hT.own_nil intEK
  replace hT := Sep.headp (A := [_, _, _, _, _, _, _, _]) (B := [_, _, _, _, _, _]) hT [0, 4, 5, 1, 3, 2] (by decide) rfl rfl
  refine ret1c rfl ag42 hF hS (i := 6) rfl sz42 rfl ⟨((⟨x6, o8, ⟨0, 0⟩, x10, 0, 0, x12, 0, x14, 0, 0, [], fr, bu, xs47, li⟩ : Sl.Thread), [(none, 0, 0), qf, qb, q47, qm]), ⟨rfl, ⟨(pcs_int h6), ok_opwf h8, ⟨int64_zero, int64_zero⟩, (by unfold int64; dsimp only; omega), int64_zero, int64_zero, h12, int64_zero, (by unfold int64; dsimp only; omega), int64_zero, int64_zero, (fun _ h => by cases h), hxf, hxb, hx47, hxm⟩, ?_, by dsimp only; omega⟩, ?_⟩
  · unfold Sl.Thread.size; simp only [List.length_nil]; omega
  · exact Sep.part_mk (ek := threadEK) (x := (⟨x6, o8, ⟨0, 0⟩, x10, 0, 0, x12, 0, x14, 0, 0, [], fr, bu, xs47, li⟩ : Sl.Thread)) (vs := [(none, 0, 0), qf, qb, q47, qm]) hT rfl
 refine rg hF rfl fun a hF => ?_
 refine cx 49 hF rfl (fun c49 hF => ?_) fun c49 hF => ?_
 ·
  refine wp_region_lit ?_
  refine ga 1 hF rfl fun a hF => ?_
  refine ck hF rfl (l1Below_c hbs (q := 5) _ hS rfl) ?_; rintro v w33 a ⟨⟨x52, rfl, h52⟩, hS⟩ hF
  refine ga 1 hF rfl fun a hF => ?_
  refine ck hF rfl (l1Below_c hbs (q := 5) _ hS rfl) ?_; rintro v w34 a ⟨⟨x54, rfl, h54⟩, hS⟩ hF
  refine wl hF rfl rfl rfl (r_build (bd39_0_1 _ _) ⟨rfl, (hF.ev rfl), rfl, (hF.ev rfl), trivial⟩) fun a hF => ?_
  refine ga 1 hF rfl fun a hF => ?_
  refine wl_storen (cs' := [_, _, _, _, _, _, _, _, _, _, _, _, _, _, _, _, _, _, _]) hF hS (i := 3) rfl (hF.ev rfl) (hF.ev rfl) sz39 ⟨rfl, rfl⟩ rfl rfl fun w35 hS => ?_; dsimp only [List.set] at hS
  refine wl_nil ?_
  refine xt ?_
  refine hK6 _ _ ?_
  refine ws fun K15 hK15 => ?_
  refine gb 1 3 hF hS rfl rfl rfl fun a hF => ?_
  refine ww 4 hF hS rfl rfl rfl rfl rfl rfl fun w36 hS => ?_
  refine wl_nil (hK15 _ _ ?_)
  refine wp_ret ?_
  refine xt ?_
  have hT := hS
  replace hT := hT.own_nil entryEK
  replace hT := hT.own_nil intEK
  replace hT := Sep.headp (A := [_, _, _, _, _, _, _, _]) (B := [_, _, _, _, _, _]) hT [0, 3, 4, 1, 2, 7] (by decide) rfl rfl
  refine ret1c rfl ag42 hF hS (i := 4) rfl sz42 rfl ⟨((⟨x6, o8, ⟨x52, x54⟩, x10, 0, 0, x12, 0, x14, 0, 0, [], fr, bu, [], li⟩ : Sl.Thread), [(none, 0, 0), qf, qb, (none, 0, 0), qm]), ⟨rfl, ⟨(pcs_int h6), ok_opwf h8, ⟨by unfold int64; dsimp only; omega, by unfold int64; dsimp only; omega⟩, (by unfold int64; dsimp only; omega), int64_zero, int64_zero, h12, int64_zero, (by unfold int64; dsimp only; omega), int64_zero, int64_zero, (fun _ h => by cases h), hxf, hxb, (fun _ h => by cases h), hxm⟩, ?_, by dsimp only; omega⟩, ?_⟩
  · unfold Sl.Thread.size; simp only [List.length_nil]; omega
  · exact Sep.part_mk (ek := threadEK) (x := (⟨x6, o8, ⟨x52, x54⟩, x10, 0, 0, x12, 0, x14, 0, 0, [], fr, bu, [], li⟩ : Sl.Thread)) (vs := [(none, 0, 0), qf, qb, (none, 0, 0), qm]) hT rfl
 refine wp_skip ?_
 refine xt ?_
 refine hK6 _ _ ?_
 refine ws fun K16 hK16 => ?_
 refine gb 1 3 hF hS rfl rfl rfl fun a hF => ?_
 refine ww 4 hF hS rfl rfl rfl rfl rfl rfl fun w37 hS => ?_
 refine wl_nil (hK16 _ _ ?_)
 refine wp_ret ?_
 refine xt ?_
 have hT := hS
 replace hT := hT.own_nil entryEK
 replace hT := hT.own_nil intEK
 replace hT := Sep.headp (A := [_, _, _, _, _, _, _, _]) (B := [_, _, _, _, _, _]) hT [0, 3, 4, 1, 2, 7] (by decide) rfl rfl
 refine ret1c rfl ag42 hF hS (i := 4) rfl sz42 rfl ⟨((⟨x6, o8, ⟨0, 0⟩, x10, 0, 0, x12, 0, x14, 0, 0, [], fr, bu, [], li⟩ : Sl.Thread), [(none, 0, 0), qf, qb, (none, 0, 0), qm]), ⟨rfl, ⟨(pcs_int h6), ok_opwf h8, ⟨int64_zero, int64_zero⟩, (by unfold int64; dsimp only; omega), int64_zero, int64_zero, h12, int64_zero, (by unfold int64; dsimp only; omega), int64_zero, int64_zero, (fun _ h => by cases h), hxf, hxb, (fun _ h => by cases h), hxm⟩, ?_, by dsimp only; omega⟩, ?_⟩
 · unfold Sl.Thread.size; simp only [List.length_nil]; omega
 · exact Sep.part_mk (ek := threadEK) (x := (⟨x6, o8, ⟨0, 0⟩, x10, 0, 0, x12, 0, x14, 0, 0, [], fr, bu, [], li⟩ : Sl.Thread)) (vs := [(none, 0, 0), qf, qb, (none, 0, 0), qm]) hT rfl
end Go.Proofs.YtgofolgogfmhgaaGreat.Wk
namespace Go.Proofs.YtgofolgogfmhgaaGreat.Wk
open Go Go.RowKit Sl
theorem en10 : enterB Tryz.prog 10 = true := by kernel_rfl
theorem en158 : enterB Tryz.prog 158 = true := by kernel_rfl
theorem en160 : enterB Tryz.prog 160 = true := by kernel_rfl
end Go.Proofs.YtgofolgogfmhgaaGreat.Wk
