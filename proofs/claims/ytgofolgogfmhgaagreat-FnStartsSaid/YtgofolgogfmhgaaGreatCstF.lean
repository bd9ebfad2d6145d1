/- FnStarts, for all arguments: the program's s returns what the reference's returns, and the arguments stay as they were. Condition: the law's own guard on size. -/
import Derived.Test.YtgofolgogfmhgaaGreatCstE
import Derived.Test.YtgofolgogfmhgaaGreatRows
namespace Go.Proofs.YtgofolgogfmhgaaGreat.Wk
open Go Go.RowKit Sl
set_option linter.unusedVariables false
set_option linter.unusedSimpArgs false
set_option maxRecDepth 20000
section
variable {x y : Entry}
theorem entry_ext (h : [x.handle, x.key, x.low, x.high] = [y.handle, y.key, y.low, y.high]) : x = y := by
 cases x; cases y; simpa using h
end
theorem op_ext {x y : Sl.Op} (h : [x.kind, x.key, x.value] = [y.kind, y.key, y.value]) : x = y := by
 cases x; cases y; simpa using h
theorem result_ext {x y : Sl.Result} (h : [x.code, x.value] = [y.code, y.value]) : x = y := by
 cases x; cases y; simpa using h
theorem config_ext {x y : Config} (h : [x.threads, x.keys, x.capacity, x.batch, x.policy, x.clockMax] = [y.threads, y.keys, y.capacity, y.batch, y.policy, y.clockMax]) : x = y := by
 cases x; cases y; simpa using h
theorem thread_eq {x y : Sl.Thread} : x = y ↔ (x.pc = y.pc ∧ [x.op.kind, x.op.key, x.op.value] = [y.op.kind, y.op.key, y.op.value] ∧ [x.result.code, x.result.value] = [y.result.code, y.result.value] ∧ x.snapshot = y.snapshot ∧ x.node = y.node ∧ x.prev = y.prev ∧ x.curr = y.curr ∧ x.next = y.next ∧ x.seen = y.seen ∧ x.stamp = y.stamp ∧ x.at_ = y.at_) ∧ x.found = y.found ∧ x.free = y.free ∧ x.buffer = y.buffer ∧ x.work = y.work ∧ x.limbo = y.limbo := by
 constructor
 · intro e; subst e; simp
 · rintro ⟨⟨h1, h2, h3, h4, h5, h6, h7, h8, h9, h10, h11⟩, g1, g2, g3, g4, g5⟩
   have e1 := op_ext h2
   have e2 := result_ext h3
   cases x; cases y
   simp only [Sl.Thread.mk.injEq]
   exact ⟨h1, e1, e2, h4, h5, h6, h7, h8, h9, h10, h11, g1, g2, g3, g4, g5⟩
theorem state_eq {x y : Sl.State} : x = y ↔ [x.config.threads, x.config.keys, x.config.capacity, x.config.batch, x.config.policy, x.config.clockMax] = [y.config.threads, y.config.keys, y.config.capacity, y.config.batch, y.config.policy, y.config.clockMax] ∧ x.cells = y.cells ∧ x.generations = y.generations ∧ x.steps = y.steps ∧ x.changes = y.changes ∧ x.retries = y.retries ∧ x.faults = y.faults ∧ x.threads = y.threads := by
 constructor
 · intro e; subst e; simp
 · rintro ⟨h1, h2, h3, h4, h5, h6, h7, h8⟩
   have e1 := config_ext h1
   cases x; cases y
   simp only [Sl.State.mk.injEq]
   exact ⟨e1, h2, h3, h8, h4, h5, h6, h7⟩
set_option maxHeartbeats 4000000 in
set_option maxRecDepth 20000 in
theorem equalI_c {W : World} {va vb : Value} {xs ys : List Int} (ha : intEK.Rd W va xs) (hb : intEK.Rd W vb ys) : Calls Tryz.prog 51 #[va, vb] W (Ret fun v w' => v = .bool (decide (xs = ys)) ∧ Below W.heap.size W w') := by
 refine calls_fr Tryz.func51 rfl Tryz.ntmps51 rfl ?_
 intro a hF
 obtain ⟨A_a, q_a, rfl, hq_a, hn_a⟩ := ha.sl; unfold maxLen at hn_a
 obtain ⟨A_b, q_b, rfl, hq_b, hn_b⟩ := hb.sl; unfold maxLen at hn_b
 have hS := Sep.refl W
 refine ws fun K1 hK1 => ?_
 refine ra 1 hF tk rfl fun a hF => ?_
 refine wl_nil (hK1 _ _ ?_)
 refine wp_seq_k fun K2 hK2 => ?_
 refine ws fun K3 hK3 => ?_
 refine ra 5 hF tk rfl fun a hF => ?_
 refine wl_nil (hK3 _ _ ?_)
 refine wc_fx (t := 10) hF rfl ?_ ?_ <;> clear hF <;> intro c10 hF <;> try simp only [zb] at c10
 ·
  refine ws fun K4 hK4 => ?_
  refine ra 1 hF tk rfl fun a hF => ?_
  refine wl_nil (hK4 _ _ ?_)
  refine wp_ret ?_
  try simp only [Exit.then, Exit.inBlock, ↓reduceIte]
  refine ret1 rfl hF rfl ⟨?_, hS.old⟩
  first | exact eq_len c10 | exact eq_at hx hy c24 | exact eq_all htk hk hlen (by omega)
 refine wp_skip ?_
 refine hK2 _ _ ?_
 refine wp_seq_k fun K5 hK5 => ?_
 refine ws fun K6 hK6 => ?_
 refine ra 3 hF tk rfl fun a hF => ?_
 refine wl_nil (hK6 _ _ ?_)
 refine wp_block ?_
 have hL_ := ((((hF.nil.keep hF (t := 12) rfl).keep hF (t := 4) rfl).keep hF (t := 1) rfl).keep hF (t := 0) rfl)
 refine wp_loop_r (σ := Nat) (fun k L_ => (13, vi k) :: L_) (fun k => (k ≤ xs.length) ∧ (xs.length = ys.length) ∧ (xs.take k = ys.take k)) (fun k => xs.length - k) 0 hS (hL_.keepE hF (t := 13) rfl rfl) ?_ ?_
 · exact ⟨Nat.zero_le _, by omega, rfl⟩
 clear hF hS hL_ a
 rintro k a w1 ⟨hk, hlen, htk⟩ hS hF; try dsimp only at hF; try dsimp only at hS
 refine ws fun K7 hK7 => ?_
 refine ra 1 hF tk rfl fun a hF => ?_
 refine wl_nil (hK7 _ _ ?_)
 refine wp_seq_k fun K8 hK8 => ?_
 refine wc_fx (t := 14) hF rfl ?_ ?_ <;> clear hF <;> intro c14 hF <;> try simp only [zb] at c14
 ·
  have hlt : k < xs.length := by omega
  have hx := at0_nat hlt
  have hy := at0_nat (xs := ys) (k := k) (by omega)
  refine wp_skip ?_
  refine hK8 _ _ ?_
  refine wp_seq_k fun K9 hK9 => ?_
  refine wp_block ?_
  refine ws fun K10 hK10 => ?_
  refine ra 2 hF tk rfl fun a hF => ?_
  refine wl_nil (hK10 _ _ ?_)
  refine wp_seq_k fun K11 hK11 => ?_
  refine wp_region_calm (by kernel_rfl) (by kernel_rfl) ?_
  refine qa 2 hF tk rfl fun a hF => ?_
  obtain ⟨g18, o18, m18, q18, hv18, hm18, hl18, hc18⟩ := Rd.atF (ha) (a := a) (X := .tmp 17) (hF.ev rfl) (by omega) (by omega)
  refine wq hF rfl rfl rfl (fun w_ hB_ => r_index sl26 ((hF.ev rfl).trans hv18) (hF.ev rfl) (by omega) (by first | omega | (simp at hm18; omega))) fun a hF => ?_
  refine wq hF rfl rfl rfl (fun w_ hB_ => r_load1 sc3 (hF.ev rfl) (cellB (hS.ext hB_).old (hc18 0 _ rfl))) fun a hF => ?_
  refine qa 2 hF tk rfl fun a hF => ?_
  obtain ⟨g22, o22, m22, q22, hv22, hm22, hl22, hc22⟩ := Rd.atF (hb) (a := a) (X := .tmp 21) (hF.ev rfl) (by omega) (by omega)
  refine wq hF rfl rfl rfl (fun w_ hB_ => r_index sl26 ((hF.ev rfl).trans hv22) (hF.ev rfl) (by omega) (by first | omega | (simp at hm22; omega))) fun a hF => ?_
  refine wq hF rfl rfl rfl (fun w_ hB_ => r_load1 sc3 (hF.ev rfl) (cellB (hS.ext hB_).old (hc22 0 _ rfl))) fun a hF => ?_
  refine qa 1 hF tk rfl fun a hF => ?_
  refine wpQuiet_nil ?_; intro w2 hB_; have hS := hS.ext hB_
  refine hK11 _ _ ?_
  refine wc_fx (t := 24) hF rfl ?_ ?_ <;> clear hF <;> intro c24 hF <;> try simp only [zb] at c24
  ·
   refine ws fun K12 hK12 => ?_
   refine ra 1 hF tk rfl fun a hF => ?_
   refine wl_nil (hK12 _ _ ?_)
   refine wp_ret ?_
   try simp only [Exit.then, Exit.inBlock, ↓reduceIte]
   refine ret1 rfl hF rfl ⟨?_, hS.old⟩
   first | exact eq_len c10 | exact eq_at hx hy c24 | exact eq_all htk hk hlen (by omega)
  refine wp_skip ?_
  simp only [Exit.then, Exit.inBlock, ↓reduceIte]
  refine hK9 _ _ ?_
  refine wp_region_lit ?_
  refine ra 2 hF tk rfl fun a hF => ?_
  refine wl_nil ?_
  try simp only [Exit.then, Exit.inBlock, ↓reduceIte]
  refine ⟨k + 1, ⟨by omega, hlen, take_next htk hx hy c24⟩, hS, (((((hF.nil.keep hF (t := 12) rfl).keep hF (t := 4) rfl).keep hF (t := 1) rfl).keep hF (t := 0) rfl).keepE hF (t := 13) rfl (wk (by omega))), by omega⟩
 refine wp_exit ?_
 simp only [Exit.then, Exit.inBlock, ↓reduceIte]
 refine hK5 _ _ ?_
 refine ws fun K13 hK13 => ?_
 refine ra 1 hF tk rfl fun a hF => ?_
 refine wl_nil (hK13 _ _ ?_)
 refine wp_ret ?_
 try simp only [Exit.then, Exit.inBlock, ↓reduceIte]
 refine ret1 rfl hF rfl ⟨?_, hS.old⟩
 first | exact eq_len c10 | exact eq_at hx hy c24 | exact eq_all htk hk hlen (by omega)
set_option maxHeartbeats 4000000 in
set_option maxRecDepth 20000 in
theorem equalN_c {W : World} {va vb : Value} {xs ys : List Entry} (ha : entryEK.Rd W va xs) (hb : entryEK.Rd W vb ys) : Calls Tryz.prog 81 #[va, vb] W (Ret fun v w' => v = .bool (decide (xs = ys)) ∧ Below W.heap.size W w') := by
 refine calls_fr Tryz.func81 rfl Tryz.ntmps81 rfl ?_
 intro a hF
 obtain ⟨A_a, q_a, rfl, hq_a, hn_a⟩ := ha.sl; unfold maxLen at hn_a
 obtain ⟨A_b, q_b, rfl, hq_b, hn_b⟩ := hb.sl; unfold maxLen at hn_b
 have hS := Sep.refl W
 refine ws fun K1 hK1 => ?_
 refine ra 1 hF tk rfl fun a hF => ?_
 refine wl_nil (hK1 _ _ ?_)
 refine wp_seq_k fun K2 hK2 => ?_
 refine ws fun K3 hK3 => ?_
 refine ra 5 hF tk rfl fun a hF => ?_
 refine wl_nil (hK3 _ _ ?_)
 refine wc_fx (t := 10) hF rfl ?_ ?_ <;> clear hF <;> intro c10 hF <;> try simp only [zb] at c10
 ·
  refine ws fun K4 hK4 => ?_
  refine ra 1 hF tk rfl fun a hF => ?_
  refine wl_nil (hK4 _ _ ?_)
  refine wp_ret ?_
  try simp only [Exit.then, Exit.inBlock, ↓reduceIte]
  refine ret1 rfl hF rfl ⟨?_, hS.old⟩
  first | exact eq_len c10 | exact eq_at hx hy c24 | exact eq_all htk hk hlen (by omega)
 refine wp_skip ?_
 refine hK2 _ _ ?_
 refine wp_seq_k fun K5 hK5 => ?_
 refine ws fun K6 hK6 => ?_
 refine ra 3 hF tk rfl fun a hF => ?_
 refine wl_nil (hK6 _ _ ?_)
 refine wp_block ?_
 have hL_ := ((((hF.nil.keep hF (t := 12) rfl).keep hF (t := 4) rfl).keep hF (t := 1) rfl).keep hF (t := 0) rfl)
 refine wp_loop_r (σ := Nat) (fun k L_ => (13, vi k) :: L_) (fun k => (k ≤ xs.length) ∧ (xs.length = ys.length) ∧ (xs.take k = ys.take k)) (fun k => xs.length - k) 0 hS (hL_.keepE hF (t := 13) rfl rfl) ?_ ?_
 · exact ⟨Nat.zero_le _, by omega, rfl⟩
 clear hF hS hL_ a
 rintro k a w1 ⟨hk, hlen, htk⟩ hS hF; try dsimp only at hF; try dsimp only at hS
 refine ws fun K7 hK7 => ?_
 refine ra 1 hF tk rfl fun a hF => ?_
 refine wl_nil (hK7 _ _ ?_)
 refine wp_seq_k fun K8 hK8 => ?_
 refine wc_fx (t := 14) hF rfl ?_ ?_ <;> clear hF <;> intro c14 hF <;> try simp only [zb] at c14
 ·
  have hlt : k < xs.length := by omega
  have hx := at0_nat hlt
  have hy := at0_nat (xs := ys) (k := k) (by omega)
  refine wp_skip ?_
  refine hK8 _ _ ?_
  refine wp_seq_k fun K9 hK9 => ?_
  refine wp_block ?_
  refine ws fun K10 hK10 => ?_
  refine ra 2 hF tk rfl fun a hF => ?_
  refine wl_nil (hK10 _ _ ?_)
  refine wp_seq_k fun K11 hK11 => ?_
  refine wp_region_calm (by kernel_rfl) (by kernel_rfl) ?_
  refine qa 2 hF tk rfl fun a hF => ?_
  obtain ⟨g18, o18, m18, q18, hv18, hm18, hl18, hc18⟩ := Rd.atF (ha) (a := a) (X := .tmp 17) (hF.ev rfl) (by omega) (by omega)
  refine wq hF rfl rfl rfl (fun w_ hB_ => r_index sl40 ((hF.ev rfl).trans hv18) (hF.ev rfl) (by omega) (by first | omega | (simp at hm18; omega))) fun a hF => ?_
  refine wq hF rfl rfl rfl (fun w_ hB_ => r_loadn ag83 (hF.ev rfl) (fun j_ u_ hu_ => cellB (hS.ext hB_).old (hc18 j_ u_ hu_)) sz83) fun a hF => ?_
  refine qa 2 hF tk rfl fun a hF => ?_
  obtain ⟨g22, o22, m22, q22, hv22, hm22, hl22, hc22⟩ := Rd.atF (hb) (a := a) (X := .tmp 21) (hF.ev rfl) (by omega) (by omega)
  refine wq hF rfl rfl rfl (fun w_ hB_ => r_index sl40 ((hF.ev rfl).trans hv22) (hF.ev rfl) (by omega) (by first | omega | (simp at hm22; omega))) fun a hF => ?_
  refine wq hF rfl rfl rfl (fun w_ hB_ => r_loadn ag83 (hF.ev rfl) (fun j_ u_ hu_ => cellB (hS.ext hB_).old (hc22 j_ u_ hu_)) sz83) fun a hF => ?_
  refine wq hF rfl rfl rfl (fun w_ hB_ => r_neqF [_, _, _, _] [_, _, _, _] fl83 ag83 eg83 rfl rfl ((hF.ev rfl).trans rfl) ((hF.ev rfl).trans rfl)) fun a hF => ?_
  refine wpQuiet_nil ?_; intro w2 hB_; have hS := hS.ext hB_
  refine hK11 _ _ ?_
  refine wc_fx (t := 24) hF rfl ?_ ?_ <;> clear hF <;> intro c24 hF <;> try simp only [zb] at c24
  ·
   have c24 : ¬ at0 xs (k : Int) = at0 ys (k : Int) := fun e => c24 (by rw [e])
   refine ws fun K12 hK12 => ?_
   refine ra 1 hF tk rfl fun a hF => ?_
   refine wl_nil (hK12 _ _ ?_)
   refine wp_ret ?_
   try simp only [Exit.then, Exit.inBlock, ↓reduceIte]
   refine ret1 rfl hF rfl ⟨?_, hS.old⟩
   first | exact eq_len c10 | exact eq_at hx hy c24 | exact eq_all htk hk hlen (by omega)
  replace c24 := entry_ext c24
  refine wp_skip ?_
  simp only [Exit.then, Exit.inBlock, ↓reduceIte]
  refine hK9 _ _ ?_
  refine wp_region_lit ?_
  refine ra 2 hF tk rfl fun a hF => ?_
  refine wl_nil ?_
  try simp only [Exit.then, Exit.inBlock, ↓reduceIte]
  refine ⟨k + 1, ⟨by omega, hlen, take_next htk hx hy c24⟩, hS, (((((hF.nil.keep hF (t := 12) rfl).keep hF (t := 4) rfl).keep hF (t := 1) rfl).keep hF (t := 0) rfl).keepE hF (t := 13) rfl (wk (by omega))), by omega⟩
 refine wp_exit ?_
 simp only [Exit.then, Exit.inBlock, ↓reduceIte]
 refine hK5 _ _ ?_
 refine ws fun K13 hK13 => ?_
 refine ra 1 hF tk rfl fun a hF => ?_
 refine wl_nil (hK13 _ _ ?_)
 refine wp_ret ?_
 try simp only [Exit.then, Exit.inBlock, ↓reduceIte]
 refine ret1 rfl hF rfl ⟨?_, hS.old⟩
 first | exact eq_len c10 | exact eq_at hx hy c24 | exact eq_all htk hk hlen (by omega)
set_option maxHeartbeats 4000000 in
set_option maxRecDepth 20000 in
theorem implEqThread_c {W : World} {x y : Sl.Thread} {cs ds : List Value} (hx : threadEK.K W x cs) (hy : threadEK.K W y ds) : Calls Tryz.prog 33 #[.agg cs.toArray, .agg ds.toArray] W (Ret fun v w' => v = .bool (decide (x = y)) ∧ Below W.heap.size W w') := by
 refine calls_fr Tryz.func33 rfl Tryz.ntmps33 rfl ?_
 intro a hF
 obtain ⟨v0, v1, v2, v3, v4, rfl, r0, r1, r2, r3, r4⟩ := hx
 obtain ⟨u0, u1, u2, u3, u4, rfl, q0, q1, q2, q3, q4⟩ := hy
 have hS := Sep.refl W
 refine ws fun K1 hK1 => ?_
 refine wl_box (cs := [_, _, _, _, _, _, _, _, _, _, _, _, _, _, _, _, _, _, _]) hF hS rfl (hF.ev rfl) rfl ?_; clear hF a; intro g1 w1 a hS_ hB_ hF; replace hS := hS_; clear hS_ hB_
 refine wl_box (cs := [_, _, _, _, _, _, _, _, _, _, _, _, _, _, _, _, _, _, _]) hF hS rfl (hF.ev rfl) rfl ?_; clear hF a; intro g2 w2 a hS_ hB_ hF; replace hS := hS_; clear hS_ hB_
 refine ra 1 hF tk rfl fun a hF => ?_
 refine wl_nil (hK1 _ _ ?_)
 refine wp_seq_k fun K2 hK2 => ?_
 refine ws fun K3 hK3 => ?_
 refine rb 3 1 hF tk hS rfl rfl rfl fun a hF => ?_
 refine rb 1 0 hF tk hS rfl rfl rfl fun a hF => ?_
 refine wl_call hF rfl rfl rfl (r_call2 en51 (hF.ev rfl) (hF.ev rfl)) (equalI_c (hS.rd r0) (hS.rd q0)) ?_; clear hF a; rintro v w3 a ⟨rfl, hB_⟩ hF; have hS := hS.ext hB_
 refine ra 2 hF tk rfl fun a hF => ?_
 apply wl_or (A := [_, _, _, _, _, _, _]) (pk := 18) hF hS (tc := 11) rfl
 ·
  intro hg11 a hF; try simp only [zb] at hg11
  refine rb 3 1 hF tk hS rfl rfl rfl fun a hF => ?_
  refine wl_take hF rfl rfl rfl rfl ?_
  refine rb 1 0 hF tk hS rfl rfl rfl fun a hF => ?_
  refine wl_take hF rfl rfl rfl rfl ?_
  refine wl_call hF rfl rfl rfl (r_call2 en51 (hF.ev rfl) (hF.ev rfl)) (equalI_c (hS.rd r1) (hS.rd q1)) ?_; clear hF a; rintro v w4 a ⟨rfl, hB_⟩ hF; have hS := hS.ext hB_
  refine ra 2 hF tk rfl fun a hF => ?_
  exact wl_nil ⟨rfl, (Fr.pre (A := [_, _, _, _, _, _, _]) hF rfl).keep hF (t := 18) rfl, hS⟩
 ·
  intro hg11 a hF; try simp only [zb] at hg11
  refine ra 7 hF tk rfl fun a hF => ?_
  exact wl_nil ⟨rfl, (Fr.pre (A := [_, _, _, _, _, _, _]) hF rfl).keep hF (t := 18) rfl, hS⟩
 clear hF a hS; intro a w5 hF hS
 refine ra 1 hF tk rfl fun a hF => ?_
 apply wl_or (A := [_, _, _, _, _, _, _]) (pk := 26) hF hS (tc := 19) rfl
 ·
  intro hg19 a hF; try simp only [zb] at hg19
  refine rb 3 1 hF tk hS rfl rfl rfl fun a hF => ?_
  refine wl_take hF rfl rfl rfl rfl ?_
  refine rb 1 0 hF tk hS rfl rfl rfl fun a hF => ?_
  refine wl_take hF rfl rfl rfl rfl ?_
  refine wl_call hF rfl rfl rfl (r_call2 en81 (hF.ev rfl) (hF.ev rfl)) (equalN_c (hS.rd r2) (hS.rd q2)) ?_; clear hF a; rintro v w6 a ⟨rfl, hB_⟩ hF; have hS := hS.ext hB_
  refine ra 2 hF tk rfl fun a hF => ?_
  exact wl_nil ⟨rfl, (Fr.pre (A := [_, _, _, _, _, _, _]) hF rfl).keep hF (t := 26) rfl, hS⟩
 ·
  intro hg19 a hF; try simp only [zb] at hg19
  refine ra 7 hF tk rfl fun a hF => ?_
  exact wl_nil ⟨rfl, (Fr.pre (A := [_, _, _, _, _, _, _]) hF rfl).keep hF (t := 26) rfl, hS⟩
 clear hF a hS; intro a w7 hF hS
 refine ra 1 hF tk rfl fun a hF => ?_
 apply wl_or (A := [_, _, _, _, _, _, _]) (pk := 34) hF hS (tc := 27) rfl
 ·
  intro hg27 a hF; try simp only [zb] at hg27
  refine rb 3 1 hF tk hS rfl rfl rfl fun a hF => ?_
  refine wl_take hF rfl rfl rfl rfl ?_
  refine rb 1 0 hF tk hS rfl rfl rfl fun a hF => ?_
  refine wl_take hF rfl rfl rfl rfl ?_
  refine wl_call hF rfl rfl rfl (r_call2 en81 (hF.ev rfl) (hF.ev rfl)) (equalN_c (hS.rd r3) (hS.rd q3)) ?_; clear hF a; rintro v w8 a ⟨rfl, hB_⟩ hF; have hS := hS.ext hB_
  refine ra 2 hF tk rfl fun a hF => ?_
  exact wl_nil ⟨rfl, (Fr.pre (A := [_, _, _, _, _, _, _]) hF rfl).keep hF (t := 34) rfl, hS⟩
 ·
  intro hg27 a hF; try simp only [zb] at hg27
  refine ra 7 hF tk rfl fun a hF => ?_
  exact wl_nil ⟨rfl, (Fr.pre (A := [_, _, _, _, _, _, _]) hF rfl).keep hF (t := 34) rfl, hS⟩
 clear hF a hS; intro a w9 hF hS
 refine ra 1 hF tk rfl fun a hF => ?_
 apply wl_or (A := [_, _, _, _, _, _, _]) (pk := 42) hF hS (tc := 35) rfl
 ·
  intro hg35 a hF; try simp only [zb] at hg35
  refine rb 3 1 hF tk hS rfl rfl rfl fun a hF => ?_
  refine wl_take hF rfl rfl rfl rfl ?_
  refine rb 1 0 hF tk hS rfl rfl rfl fun a hF => ?_
  refine wl_take hF rfl rfl rfl rfl ?_
  refine wl_call hF rfl rfl rfl (r_call2 en51 (hF.ev rfl) (hF.ev rfl)) (equalI_c (hS.rd r4) (hS.rd q4)) ?_; clear hF a; rintro v w10 a ⟨rfl, hB_⟩ hF; have hS := hS.ext hB_
  refine ra 2 hF tk rfl fun a hF => ?_
  exact wl_nil ⟨rfl, (Fr.pre (A := [_, _, _, _, _, _, _]) hF rfl).keep hF (t := 42) rfl, hS⟩
 ·
  intro hg35 a hF; try simp only [zb] at hg35
  refine ra 7 hF tk rfl fun a hF => ?_
  exact wl_nil ⟨rfl, (Fr.pre (A := [_, _, _, _, _, _, _]) hF rfl).keep hF (t := 42) rfl, hS⟩
 clear hF a hS; intro a w11 hF hS
 refine wl_nil (hK3 _ _ ?_)
 refine wc_fx (t := 42) hF rfl ?_ ?_ <;> clear hF <;> intro c42 hF <;> try simp only [zb] at c42
 ·
  refine ws fun K4 hK4 => ?_
  refine ra 1 hF tk rfl fun a hF => ?_
  refine wl_nil (hK4 _ _ ?_)
  refine wp_ret ?_
  try simp only [Exit.then, Exit.inBlock, ↓reduceIte]
  refine ret1 rfl hF rfl ⟨congrArg Value.bool (Eq.symm ?_), hS.old⟩
  first
    | exact decide_eq_false fun e => by subst e; simp at c42
    | (rw [Bool.eq_iff_iff]; simp only [zb3, zb4, zb7, and_assoc] at c42 ⊢; rw [thread_eq]; exact ⟨fun h => h.1, fun h => ⟨h, c42⟩⟩)
 refine wp_skip ?_
 refine hK2 _ _ ?_
 refine ws fun K5 hK5 => ?_
 refine rb 3 1 hF tk hS rfl rfl rfl fun a hF => ?_
 refine rb 3 0 hF tk hS rfl rfl rfl fun a hF => ?_
 apply wl_and (A := [_, _, _, _, _, _]) (pk := 54) hF hS (tc := 48) rfl
 ·
  intro hg48 a hF; try simp only [zb] at hg48
  refine ra 1 hF tk rfl fun a hF => ?_
  refine wl_take hF rfl rfl rfl rfl ?_
  refine wl hF rfl rfl rfl (r_loadn ag31 (hF.ev rfl) (hS.boxn (vs := [_, _, _]) (i := 1) (m := 3) rfl rfl) sz31) fun a hF => ?_
  refine ra 1 hF tk rfl fun a hF => ?_
  refine wl_take hF rfl rfl rfl rfl ?_
  refine wl hF rfl rfl rfl (r_loadn ag31 (hF.ev rfl) (hS.boxn (vs := [_, _, _]) (i := 0) (m := 3) rfl rfl) sz31) fun a hF => ?_
  refine wl_take hF rfl rfl rfl rfl ?_
  refine wl hF rfl rfl rfl (r_eqlF [_, _, _] [_, _, _] fl31 ag31 eg31 rfl rfl ((hF.ev rfl).trans rfl) ((hF.ev rfl).trans rfl)) fun a hF => ?_
  refine ra 1 hF tk rfl fun a hF => ?_
  exact wl_nil ⟨rfl, (Fr.pre (A := [_, _, _, _, _, _]) hF rfl).keep hF (t := 54) rfl, hS⟩
 ·
  intro hg48 a hF; try simp only [zb] at hg48
  refine ra 6 hF tk rfl fun a hF => ?_
  exact wl_nil ⟨rfl, (Fr.pre (A := [_, _, _, _, _, _]) hF rfl).keep hF (t := 54) rfl, hS⟩
 clear hF a hS; intro a w12 hF hS
 refine ra 1 hF tk rfl fun a hF => ?_
 apply wl_and (A := [_, _, _, _, _, _]) (pk := 61) hF hS (tc := 55) rfl
 ·
  intro hg55 a hF; try simp only [zb] at hg55
  refine ra 1 hF tk rfl fun a hF => ?_
  refine wl_take hF rfl rfl rfl rfl ?_
  refine wl hF rfl rfl rfl (r_loadn ag39 (hF.ev rfl) (hS.boxn (vs := [_, _]) (i := 1) (m := 2) rfl rfl) sz39) fun a hF => ?_
  refine ra 1 hF tk rfl fun a hF => ?_
  refine wl_take hF rfl rfl rfl rfl ?_
  refine wl hF rfl rfl rfl (r_loadn ag39 (hF.ev rfl) (hS.boxn (vs := [_, _]) (i := 0) (m := 2) rfl rfl) sz39) fun a hF => ?_
  refine wl_take hF rfl rfl rfl rfl ?_
  refine wl hF rfl rfl rfl (r_eqlF [_, _] [_, _] fl39 ag39 eg39 rfl rfl ((hF.ev rfl).trans rfl) ((hF.ev rfl).trans rfl)) fun a hF => ?_
  refine ra 1 hF tk rfl fun a hF => ?_
  exact wl_nil ⟨rfl, (Fr.pre (A := [_, _, _, _, _, _]) hF rfl).keep hF (t := 61) rfl, hS⟩
 ·
  intro hg55 a hF; try simp only [zb] at hg55
  refine ra 6 hF tk rfl fun a hF => ?_
  exact wl_nil ⟨rfl, (Fr.pre (A := [_, _, _, _, _, _]) hF rfl).keep hF (t := 61) rfl, hS⟩
 clear hF a hS; intro a w13 hF hS
 refine ra 1 hF tk rfl fun a hF => ?_
 apply wl_and (A := [_, _, _, _, _, _]) (pk := 68) hF hS (tc := 62) rfl
 ·
  intro hg62 a hF; try simp only [zb] at hg62
  refine rb 3 1 hF tk hS rfl rfl rfl fun a hF => ?_
  refine wl_take hF rfl rfl rfl rfl ?_
  refine rb 3 0 hF tk hS rfl rfl rfl fun a hF => ?_
  exact wl_nil ⟨rfl, (Fr.pre (A := [_, _, _, _, _, _]) hF rfl).keep hF (t := 68) rfl, hS⟩
 ·
  intro hg62 a hF; try simp only [zb] at hg62
  refine ra 6 hF tk rfl fun a hF => ?_
  exact wl_nil ⟨rfl, (Fr.pre (A := [_, _, _, _, _, _]) hF rfl).keep hF (t := 68) rfl, hS⟩
 clear hF a hS; intro a w14 hF hS
 refine ra 1 hF tk rfl fun a hF => ?_
 apply wl_and (A := [_, _, _, _, _, _]) (pk := 75) hF hS (tc := 69) rfl
 ·
  intro hg69 a hF; try simp only [zb] at hg69
  refine rb 3 1 hF tk hS rfl rfl rfl fun a hF => ?_
  refine wl_take hF rfl rfl rfl rfl ?_
  refine rb 3 0 hF tk hS rfl rfl rfl fun a hF => ?_
  exact wl_nil ⟨rfl, (Fr.pre (A := [_, _, _, _, _, _]) hF rfl).keep hF (t := 75) rfl, hS⟩
 ·
  intro hg69 a hF; try simp only [zb] at hg69
  refine ra 6 hF tk rfl fun a hF => ?_
  exact wl_nil ⟨rfl, (Fr.pre (A := [_, _, _, _, _, _]) hF rfl).keep hF (t := 75) rfl, hS⟩
 clear hF a hS; intro a w15 hF hS
 refine ra 1 hF tk rfl fun a hF => ?_
 apply wl_and (A := [_, _, _, _, _, _]) (pk := 82) hF hS (tc := 76) rfl
 ·
  intro hg76 a hF; try simp only [zb] at hg76
  refine rb 3 1 hF tk hS rfl rfl rfl fun a hF => ?_
  refine wl_take hF rfl rfl rfl rfl ?_
  refine rb 3 0 hF tk hS rfl rfl rfl fun a hF => ?_
  exact wl_nil ⟨rfl, (Fr.pre (A := [_, _, _, _, _, _]) hF rfl).keep hF (t := 82) rfl, hS⟩
 ·
  intro hg76 a hF; try simp only [zb] at hg76
  refine ra 6 hF tk rfl fun a hF => ?_
  exact wl_nil ⟨rfl, (Fr.pre (A := [_, _, _, _, _, _]) hF rfl).keep hF (t := 82) rfl, hS⟩
 clear hF a hS; intro a w16 hF hS
 refine ra 1 hF tk rfl fun a hF => ?_
 apply wl_and (A := [_, _, _, _, _, _]) (pk := 89) hF hS (tc := 83) rfl
 ·
  intro hg83 a hF; try simp only [zb] at hg83
  refine rb 3 1 hF tk hS rfl rfl rfl fun a hF => ?_
  refine wl_take hF rfl rfl rfl rfl ?_
  refine rb 3 0 hF tk hS rfl rfl rfl fun a hF => ?_
  exact wl_nil ⟨rfl, (Fr.pre (A := [_, _, _, _, _, _]) hF rfl).keep hF (t := 89) rfl, hS⟩
 ·
  intro hg83 a hF; try simp only [zb] at hg83
  refine ra 6 hF tk rfl fun a hF => ?_
  exact wl_nil ⟨rfl, (Fr.pre (A := [_, _, _, _, _, _]) hF rfl).keep hF (t := 89) rfl, hS⟩
 clear hF a hS; intro a w17 hF hS
 refine ra 1 hF tk rfl fun a hF => ?_
 apply wl_and (A := [_, _, _, _, _, _]) (pk := 96) hF hS (tc := 90) rfl
 ·
  intro hg90 a hF; try simp only [zb] at hg90
  refine rb 3 1 hF tk hS rfl rfl rfl fun a hF => ?_
  refine wl_take hF rfl rfl rfl rfl ?_
  refine rb 3 0 hF tk hS rfl rfl rfl fun a hF => ?_
  exact wl_nil ⟨rfl, (Fr.pre (A := [_, _, _, _, _, _]) hF rfl).keep hF (t := 96) rfl, hS⟩
 ·
  intro hg90 a hF; try simp only [zb] at hg90
  refine ra 6 hF tk rfl fun a hF => ?_
  exact wl_nil ⟨rfl, (Fr.pre (A := [_, _, _, _, _, _]) hF rfl).keep hF (t := 96) rfl, hS⟩
 clear hF a hS; intro a w18 hF hS
 refine ra 1 hF tk rfl fun a hF => ?_
 apply wl_and (A := [_, _, _, _, _, _]) (pk := 103) hF hS (tc := 97) rfl
 ·
  intro hg97 a hF; try simp only [zb] at hg97
  refine rb 3 1 hF tk hS rfl rfl rfl fun a hF => ?_
  refine wl_take hF rfl rfl rfl rfl ?_
  refine rb 3 0 hF tk hS rfl rfl rfl fun a hF => ?_
  exact wl_nil ⟨rfl, (Fr.pre (A := [_, _, _, _, _, _]) hF rfl).keep hF (t := 103) rfl, hS⟩
 ·
  intro hg97 a hF; try simp only [zb] at hg97
  refine ra 6 hF tk rfl fun a hF => ?_
  exact wl_nil ⟨rfl, (Fr.pre (A := [_, _, _, _, _, _]) hF rfl).keep hF (t := 103) rfl, hS⟩
 clear hF a hS; intro a w19 hF hS
 refine ra 1 hF tk rfl fun a hF => ?_
 apply wl_and (A := [_, _, _, _, _, _]) (pk := 110) hF hS (tc := 104) rfl
 ·
  intro hg104 a hF; try simp only [zb] at hg104
  refine rb 3 1 hF tk hS rfl rfl rfl fun a hF => ?_
  refine wl_take hF rfl rfl rfl rfl ?_
  refine rb 3 0 hF tk hS rfl rfl rfl fun a hF => ?_
  exact wl_nil ⟨rfl, (Fr.pre (A := [_, _, _, _, _, _]) hF rfl).keep hF (t := 110) rfl, hS⟩
 ·
  intro hg104 a hF; try simp only [zb] at hg104
  refine ra 6 hF tk rfl fun a hF => ?_
  exact wl_nil ⟨rfl, (Fr.pre (A := [_, _, _, _, _, _]) hF rfl).keep hF (t := 110) rfl, hS⟩
 clear hF a hS; intro a w20 hF hS
 refine ra 1 hF tk rfl fun a hF => ?_
 apply wl_and (A := [_, _, _, _, _, _]) (pk := 117) hF hS (tc := 111) rfl
 ·
  intro hg111 a hF; try simp only [zb] at hg111
  refine rb 3 1 hF tk hS rfl rfl rfl fun a hF => ?_
  refine wl_take hF rfl rfl rfl rfl ?_
  refine rb 3 0 hF tk hS rfl rfl rfl fun a hF => ?_
  exact wl_nil ⟨rfl, (Fr.pre (A := [_, _, _, _, _, _]) hF rfl).keep hF (t := 117) rfl, hS⟩
 ·
  intro hg111 a hF; try simp only [zb] at hg111
  refine ra 6 hF tk rfl fun a hF => ?_
  exact wl_nil ⟨rfl, (Fr.pre (A := [_, _, _, _, _, _]) hF rfl).keep hF (t := 117) rfl, hS⟩
 clear hF a hS; intro a w21 hF hS
 refine ra 1 hF tk rfl fun a hF => ?_
 refine wl_nil (hK5 _ _ ?_)
 refine wp_ret ?_
 try simp only [Exit.then, Exit.inBlock, ↓reduceIte]
 refine ret1 rfl hF rfl ⟨congrArg Value.bool (Eq.symm ?_), hS.old⟩
 first
   | exact decide_eq_false fun e => by subst e; simp at c42
   | (rw [Bool.eq_iff_iff]; simp only [zb3, zb4, zb7, and_assoc] at c42 ⊢; rw [thread_eq]; exact ⟨fun h => h.1, fun h => ⟨h, c42⟩⟩)
set_option maxHeartbeats 4000000 in
set_option maxRecDepth 20000 in
theorem equalFuncT_c {W : World} {va vb : Value} {xs ys : List Sl.Thread} (ha : threadEK.Rd W va xs) (hb : threadEK.Rd W vb ys) : Calls Tryz.prog 52 #[va, vb, .func (.func 33) #[] #[]] W (Ret fun v w' => v = .bool (decide (xs = ys)) ∧ Below W.heap.size W w') := by
 refine calls_fr Tryz.func52 rfl Tryz.ntmps52 rfl ?_
 intro a hF
 obtain ⟨A_a, q_a, rfl, hq_a, hn_a⟩ := ha.sl; unfold maxLen at hn_a
 obtain ⟨A_b, q_b, rfl, hq_b, hn_b⟩ := hb.sl; unfold maxLen at hn_b
 have hS := Sep.refl W
 refine ws fun K1 hK1 => ?_
 refine ra 1 hF tk rfl fun a hF => ?_
 refine wl_nil (hK1 _ _ ?_)
 refine wp_seq_k fun K2 hK2 => ?_
 refine ws fun K3 hK3 => ?_
 refine ra 5 hF tk rfl fun a hF => ?_
 refine wl_nil (hK3 _ _ ?_)
 refine wc_fx (t := 14) hF rfl ?_ ?_ <;> clear hF <;> intro c14 hF <;> try simp only [zb] at c14
 ·
  refine ws fun K4 hK4 => ?_
  refine ra 1 hF tk rfl fun a hF => ?_
  refine wl_nil (hK4 _ _ ?_)
  refine wp_ret ?_
  try simp only [Exit.then, Exit.inBlock, ↓reduceIte]
  refine ret1 rfl hF rfl ⟨?_, hS.old⟩
  first | exact eq_len c14 | exact eq_at hx hy c30 | exact eq_all htk hk hlen (by omega)
 refine wp_skip ?_
 refine hK2 _ _ ?_
 refine wp_seq_k fun K5 hK5 => ?_
 refine ws fun K6 hK6 => ?_
 refine ra 3 hF tk rfl fun a hF => ?_
 refine wl_nil (hK6 _ _ ?_)
 refine wp_block ?_
 have hL_ := (((((hF.nil.keep hF (t := 16) rfl).keep hF (t := 15) rfl).keep hF (t := 6) rfl).keep hF (t := 2) rfl).keep hF (t := 1) rfl)
 refine wp_loop_r (σ := Nat) (fun k L_ => (17, vi k) :: L_) (fun k => (k ≤ xs.length) ∧ (xs.length = ys.length) ∧ (xs.take k = ys.take k)) (fun k => xs.length - k) 0 hS (hL_.keepE hF (t := 17) rfl rfl) ?_ ?_
 · exact ⟨Nat.zero_le _, by omega, rfl⟩
 clear hF hS hL_ a
 rintro k a w1 ⟨hk, hlen, htk⟩ hS hF; try dsimp only at hF; try dsimp only at hS
 refine ws fun K7 hK7 => ?_
 refine ra 1 hF tk rfl fun a hF => ?_
 refine wl_nil (hK7 _ _ ?_)
 refine wp_seq_k fun K8 hK8 => ?_
 refine wc_fx (t := 18) hF rfl ?_ ?_ <;> clear hF <;> intro c18 hF <;> try simp only [zb] at c18
 ·
  have hlt : k < xs.length := by omega
  have hx := at0_nat hlt
  have hy := at0_nat (xs := ys) (k := k) (by omega)
  refine wp_skip ?_
  refine hK8 _ _ ?_
  refine wp_seq_k fun K9 hK9 => ?_
  refine wp_block ?_
  refine ws fun K10 hK10 => ?_
  refine ra 1 hF tk rfl fun a hF => ?_
  obtain ⟨g20, o20, m20, q20, cs20, hv20, hm20, hl20, hk20, hz20, hc20⟩ := Rd.at (ha) (a := a) (X := .tmp 17) (hF.ev rfl) (by omega) (by omega)
  have hkk20 := hk20; obtain ⟨v20_0, v20_1, v20_2, v20_3, v20_4, rfl, r20_0, r20_1, r20_2, r20_3, r20_4⟩ := hk20
  obtain ⟨A20_0, q20_0, rfl, hq20_0, hn20_0⟩ := r20_0.sl; unfold maxLen at hn20_0
  obtain ⟨A20_1, q20_1, rfl, hq20_1, hn20_1⟩ := r20_1.sl; unfold maxLen at hn20_1
  obtain ⟨A20_2, q20_2, rfl, hq20_2, hn20_2⟩ := r20_2.sl; unfold maxLen at hn20_2
  obtain ⟨A20_3, q20_3, rfl, hq20_3, hn20_3⟩ := r20_3.sl; unfold maxLen at hn20_3
  obtain ⟨A20_4, q20_4, rfl, hq20_4, hn20_4⟩ := r20_4.sl; unfold maxLen at hn20_4
  refine wl hF rfl rfl rfl (r_index sl27 ((hF.ev rfl).trans hv20) (hF.ev rfl) (by omega) (by first | omega | (simp at hm20; omega))) fun a hF => ?_
  refine wl hF rfl rfl rfl (r_loadn ag42 (hF.ev rfl) (fun j_ u_ hu_ => cellB hS.old (hc20 j_ u_ hu_)) sz42) fun a hF => ?_
  refine wl_alloc hF hS rfl zr42 ?_; clear hF a; intro g1 w2 a hS_ hB_ hF; replace hS := hS_; clear hS_ hB_
  refine ra 1 hF tk rfl fun a hF => ?_
  refine wl_storew hF hS (i := 0) rfl (hF.ev rfl) (hF.ev rfl) sz42 rfl rfl fun w3 hS => ?_; dsimp only [List.set, Nat.reduceAdd] at hS
  refine wl_nil (hK10 _ _ ?_)
  refine ws fun K11 hK11 => ?_
  refine ra 2 hF tk rfl fun a hF => ?_
  obtain ⟨g24, o24, m24, q24, cs24, hv24, hm24, hl24, hk24, hz24, hc24⟩ := Rd.at (hb) (a := a) (X := .tmp 23) (hF.ev rfl) (by omega) (by omega)
  have hkk24 := hk24; obtain ⟨v24_0, v24_1, v24_2, v24_3, v24_4, rfl, r24_0, r24_1, r24_2, r24_3, r24_4⟩ := hk24
  obtain ⟨A24_0, q24_0, rfl, hq24_0, hn24_0⟩ := r24_0.sl; unfold maxLen at hn24_0
  obtain ⟨A24_1, q24_1, rfl, hq24_1, hn24_1⟩ := r24_1.sl; unfold maxLen at hn24_1
  obtain ⟨A24_2, q24_2, rfl, hq24_2, hn24_2⟩ := r24_2.sl; unfold maxLen at hn24_2
  obtain ⟨A24_3, q24_3, rfl, hq24_3, hn24_3⟩ := r24_3.sl; unfold maxLen at hn24_3
  obtain ⟨A24_4, q24_4, rfl, hq24_4, hn24_4⟩ := r24_4.sl; unfold maxLen at hn24_4
  refine wl hF rfl rfl rfl (r_index sl27 ((hF.ev rfl).trans hv24) (hF.ev rfl) (by omega) (by first | omega | (simp at hm24; omega))) fun a hF => ?_
  refine wl hF rfl rfl rfl (r_loadn ag42 (hF.ev rfl) (fun j_ u_ hu_ => cellB hS.old (hc24 j_ u_ hu_)) sz42) fun a hF => ?_
  refine wl_alloc hF hS rfl zr42 ?_; clear hF a; intro g2 w4 a hS_ hB_ hF; replace hS := hS_; clear hS_ hB_
  refine wl_storew hF hS (i := 0) rfl (hF.ev rfl) (hF.ev rfl) sz42 rfl rfl fun w5 hS => ?_; dsimp only [List.set, Nat.reduceAdd] at hS
  refine wl_nil (hK11 _ _ ?_)
  refine ws fun K12 hK12 => ?_
  refine rb 2 1 hF tk hS rfl rfl rfl fun a hF => ?_
  refine rb 1 0 hF tk hS rfl rfl rfl fun a hF => ?_
  refine wl_call hF rfl rfl rfl (r_callw2 en33 (hF.ev rfl) (hF.ev rfl) (hF.ev rfl)) (implEqThread_c (hS.k hkk20) (hS.k hkk24)) ?_; clear hF a; rintro v w6 a ⟨rfl, hB_⟩ hF; have hS := hS.ext hB_
  refine ra 1 hF tk rfl fun a hF => ?_
  refine wl_nil (hK12 _ _ ?_)
  refine wc_fx (t := 30) hF rfl ?_ ?_ <;> clear hF <;> intro c30 hF <;> try simp only [zb] at c30
  ·
   refine ws fun K13 hK13 => ?_
   refine ra 1 hF tk rfl fun a hF => ?_
   refine wl_nil (hK13 _ _ ?_)
   refine wp_ret ?_
   try simp only [Exit.then, Exit.inBlock, ↓reduceIte]
   refine ret1 rfl hF rfl ⟨?_, hS.old⟩
   first | exact eq_len c14 | exact eq_at hx hy c30 | exact eq_all htk hk hlen (by omega)
  refine wp_skip ?_
  simp only [Exit.then, Exit.inBlock, ↓reduceIte]
  refine hK9 _ _ ?_
  refine wp_region_lit ?_
  refine ra 2 hF tk rfl fun a hF => ?_
  refine wl_nil ?_
  try simp only [Exit.then, Exit.inBlock, ↓reduceIte]
  refine ⟨k + 1, ⟨by omega, hlen, take_next htk hx hy c30⟩, (hS.pick [] (by decide) rfl), ((((((hF.nil.keep hF (t := 16) rfl).keep hF (t := 15) rfl).keep hF (t := 6) rfl).keep hF (t := 2) rfl).keep hF (t := 1) rfl).keepE hF (t := 17) rfl (wk (by omega))), by omega⟩
 refine wp_exit ?_
 simp only [Exit.then, Exit.inBlock, ↓reduceIte]
 refine hK5 _ _ ?_
 refine ws fun K14 hK14 => ?_
 refine ra 1 hF tk rfl fun a hF => ?_
 refine wl_nil (hK14 _ _ ?_)
 refine wp_ret ?_
 try simp only [Exit.then, Exit.inBlock, ↓reduceIte]
 refine ret1 rfl hF rfl ⟨?_, hS.old⟩
 first | exact eq_len c14 | exact eq_at hx hy c30 | exact eq_all htk hk hlen (by omega)
set_option maxHeartbeats 4000000 in
set_option maxRecDepth 20000 in
theorem implEqState_c {W : World} {x y : Sl.State} {cs ds : List Value} (hx : stateEK.K W x cs) (hy : stateEK.K W y ds) : Calls Tryz.prog 12 #[.agg cs.toArray, .agg ds.toArray] W (Ret fun v w' => v = .bool (decide (x = y)) ∧ Below W.heap.size W w') := by
 refine calls_fr Tryz.func12 rfl Tryz.ntmps12 rfl ?_
 intro a hF
 obtain ⟨v0, v1, v2, rfl, r0, r1, r2⟩ := hx
 obtain ⟨u0, u1, u2, rfl, q0, q1, q2⟩ := hy
 obtain ⟨A_a, q_a, rfl, hq_a, hn_a⟩ := r0.sl; unfold maxLen at hn_a
 obtain ⟨A_b, q_b, rfl, hq_b, hn_b⟩ := r1.sl; unfold maxLen at hn_b
 obtain ⟨A_c, q_c, rfl, hq_c, hn_c⟩ := r2.sl; unfold maxLen at hn_c
 obtain ⟨A_d, q_d, rfl, hq_d, hn_d⟩ := q0.sl; unfold maxLen at hn_d
 obtain ⟨A_e, q_e, rfl, hq_e, hn_e⟩ := q1.sl; unfold maxLen at hn_e
 obtain ⟨A_f, q_f, rfl, hq_f, hn_f⟩ := q2.sl; unfold maxLen at hn_f
 have hS := Sep.refl W
 refine ws fun K1 hK1 => ?_
 refine wl_box (cs := [_, _, _, _, _, _, _, _, _, _, _, _, _]) hF hS rfl (hF.ev rfl) rfl ?_; clear hF a; intro g1 w1 a hS_ hB_ hF; replace hS := hS_; clear hS_ hB_
 refine wl_box (cs := [_, _, _, _, _, _, _, _, _, _, _, _, _]) hF hS rfl (hF.ev rfl) rfl ?_; clear hF a; intro g2 w2 a hS_ hB_ hF; replace hS := hS_; clear hS_ hB_
 refine ra 1 hF tk rfl fun a hF => ?_
 refine wl_nil (hK1 _ _ ?_)
 refine ws fun K2 hK2 => ?_
 refine ra 1 hF tk rfl fun a hF => ?_
 refine wl hF rfl rfl rfl (r_loadn ag25 (hF.ev rfl) (hS.boxn (vs := [_, _, _, _, _, _]) (i := 1) (m := 6) rfl rfl) sz25) fun a hF => ?_
 refine ra 1 hF tk rfl fun a hF => ?_
 refine wl hF rfl rfl rfl (r_loadn ag25 (hF.ev rfl) (hS.boxn (vs := [_, _, _, _, _, _]) (i := 0) (m := 6) rfl rfl) sz25) fun a hF => ?_
 refine wl hF rfl rfl rfl (r_eqlF [_, _, _, _, _, _] [_, _, _, _, _, _] fl25 ag25 eg25 rfl rfl ((hF.ev rfl).trans rfl) ((hF.ev rfl).trans rfl)) fun a hF => ?_
 refine ra 1 hF tk rfl fun a hF => ?_
 apply wl_and (A := [_, _, _, _, _, _]) (pk := 16) hF hS (tc := 10) rfl
 ·
  intro hg10 a hF; try simp only [zb] at hg10
  refine rb 3 1 hF tk hS rfl rfl rfl fun a hF => ?_
  refine wl_take hF rfl rfl rfl rfl ?_
  refine rb 1 0 hF tk hS rfl rfl rfl fun a hF => ?_
  refine wl_take hF rfl rfl rfl rfl ?_
  refine wl_call hF rfl rfl rfl (r_call2 en51 (hF.ev rfl) (hF.ev rfl)) (equalI_c (hS.rd r0) (hS.rd q0)) ?_; clear hF a; rintro v w3 a ⟨rfl, hB_⟩ hF; have hS := hS.ext hB_
  refine ra 1 hF tk rfl fun a hF => ?_
  exact wl_nil ⟨rfl, (Fr.pre (A := [_, _, _, _, _, _]) hF rfl).keep hF (t := 16) rfl, hS⟩
 ·
  intro hg10 a hF; try simp only [zb] at hg10
  refine ra 6 hF tk rfl fun a hF => ?_
  exact wl_nil ⟨rfl, (Fr.pre (A := [_, _, _, _, _, _]) hF rfl).keep hF (t := 16) rfl, hS⟩
 clear hF a hS; intro a w4 hF hS
 refine ra 1 hF tk rfl fun a hF => ?_
 apply wl_and (A := [_, _, _, _, _, _]) (pk := 23) hF hS (tc := 17) rfl
 ·
  intro hg17 a hF; try simp only [zb] at hg17
  refine rb 3 1 hF tk hS rfl rfl rfl fun a hF => ?_
  refine wl_take hF rfl rfl rfl rfl ?_
  refine rb 1 0 hF tk hS rfl rfl rfl fun a hF => ?_
  refine wl_take hF rfl rfl rfl rfl ?_
  refine wl_call hF rfl rfl rfl (r_call2 en51 (hF.ev rfl) (hF.ev rfl)) (equalI_c (hS.rd r1) (hS.rd q1)) ?_; clear hF a; rintro v w5 a ⟨rfl, hB_⟩ hF; have hS := hS.ext hB_
  refine ra 1 hF tk rfl fun a hF => ?_
  exact wl_nil ⟨rfl, (Fr.pre (A := [_, _, _, _, _, _]) hF rfl).keep hF (t := 23) rfl, hS⟩
 ·
  intro hg17 a hF; try simp only [zb] at hg17
  refine ra 6 hF tk rfl fun a hF => ?_
  exact wl_nil ⟨rfl, (Fr.pre (A := [_, _, _, _, _, _]) hF rfl).keep hF (t := 23) rfl, hS⟩
 clear hF a hS; intro a w6 hF hS
 refine ra 1 hF tk rfl fun a hF => ?_
 apply wl_and (A := [_, _, _, _, _, _]) (pk := 30) hF hS (tc := 24) rfl
 ·
  intro hg24 a hF; try simp only [zb] at hg24
  refine rb 3 1 hF tk hS rfl rfl rfl fun a hF => ?_
  refine wl_take hF rfl rfl rfl rfl ?_
  refine rb 1 0 hF tk hS rfl rfl rfl fun a hF => ?_
  refine wl_take hF rfl rfl rfl rfl ?_
  refine wl_call hF rfl rfl rfl (r_call3 en52 (hF.ev rfl) (hF.ev rfl) ef) (equalFuncT_c (hS.rd r2) (hS.rd q2)) ?_; clear hF a; rintro v w7 a ⟨rfl, hB_⟩ hF; have hS := hS.ext hB_
  refine ra 1 hF tk rfl fun a hF => ?_
  exact wl_nil ⟨rfl, (Fr.pre (A := [_, _, _, _, _, _]) hF rfl).keep hF (t := 30) rfl, hS⟩
 ·
  intro hg24 a hF; try simp only [zb] at hg24
  refine ra 6 hF tk rfl fun a hF => ?_
  exact wl_nil ⟨rfl, (Fr.pre (A := [_, _, _, _, _, _]) hF rfl).keep hF (t := 30) rfl, hS⟩
 clear hF a hS; intro a w8 hF hS
 refine ra 1 hF tk rfl fun a hF => ?_
 apply wl_and (A := [_, _, _, _, _, _]) (pk := 37) hF hS (tc := 31) rfl
 ·
  intro hg31 a hF; try simp only [zb] at hg31
  refine rb 3 1 hF tk hS rfl rfl rfl fun a hF => ?_
  refine wl_take hF rfl rfl rfl rfl ?_
  refine rb 3 0 hF tk hS rfl rfl rfl fun a hF => ?_
  exact wl_nil ⟨rfl, (Fr.pre (A := [_, _, _, _, _, _]) hF rfl).keep hF (t := 37) rfl, hS⟩
 ·
  intro hg31 a hF; try simp only [zb] at hg31
  refine ra 6 hF tk rfl fun a hF => ?_
  exact wl_nil ⟨rfl, (Fr.pre (A := [_, _, _, _, _, _]) hF rfl).keep hF (t := 37) rfl, hS⟩
 clear hF a hS; intro a w9 hF hS
 refine ra 1 hF tk rfl fun a hF => ?_
 apply wl_and (A := [_, _, _, _, _, _]) (pk := 44) hF hS (tc := 38) rfl
 ·
  intro hg38 a hF; try simp only [zb] at hg38
  refine rb 3 1 hF tk hS rfl rfl rfl fun a hF => ?_
  refine wl_take hF rfl rfl rfl rfl ?_
  refine rb 3 0 hF tk hS rfl rfl rfl fun a hF => ?_
  exact wl_nil ⟨rfl, (Fr.pre (A := [_, _, _, _, _, _]) hF rfl).keep hF (t := 44) rfl, hS⟩
 ·
  intro hg38 a hF; try simp only [zb] at hg38
  refine ra 6 hF tk rfl fun a hF => ?_
  exact wl_nil ⟨rfl, (Fr.pre (A := [_, _, _, _, _, _]) hF rfl).keep hF (t := 44) rfl, hS⟩
 clear hF a hS; intro a w10 hF hS
 refine ra 1 hF tk rfl fun a hF => ?_
 apply wl_and (A := [_, _, _, _, _, _]) (pk := 51) hF hS (tc := 45) rfl
 ·
  intro hg45 a hF; try simp only [zb] at hg45
  refine rb 3 1 hF tk hS rfl rfl rfl fun a hF => ?_
  refine wl_take hF rfl rfl rfl rfl ?_
  refine rb 3 0 hF tk hS rfl rfl rfl fun a hF => ?_
  exact wl_nil ⟨rfl, (Fr.pre (A := [_, _, _, _, _, _]) hF rfl).keep hF (t := 51) rfl, hS⟩
 ·
  intro hg45 a hF; try simp only [zb] at hg45
  refine ra 6 hF tk rfl fun a hF => ?_
  exact wl_nil ⟨rfl, (Fr.pre (A := [_, _, _, _, _, _]) hF rfl).keep hF (t := 51) rfl, hS⟩
 clear hF a hS; intro a w11 hF hS
 refine ra 1 hF tk rfl fun a hF => ?_
 apply wl_and (A := [_, _, _, _, _, _]) (pk := 58) hF hS (tc := 52) rfl
 ·
  intro hg52 a hF; try simp only [zb] at hg52
  refine rb 3 1 hF tk hS rfl rfl rfl fun a hF => ?_
  refine wl_take hF rfl rfl rfl rfl ?_
  refine rb 3 0 hF tk hS rfl rfl rfl fun a hF => ?_
  exact wl_nil ⟨rfl, (Fr.pre (A := [_, _, _, _, _, _]) hF rfl).keep hF (t := 58) rfl, hS⟩
 ·
  intro hg52 a hF; try simp only [zb] at hg52
  refine ra 6 hF tk rfl fun a hF => ?_
  exact wl_nil ⟨rfl, (Fr.pre (A := [_, _, _, _, _, _]) hF rfl).keep hF (t := 58) rfl, hS⟩
 clear hF a hS; intro a w12 hF hS
 refine ra 1 hF tk rfl fun a hF => ?_
 refine wl_nil (hK2 _ _ ?_)
 refine wp_ret ?_
 try simp only [Exit.then, Exit.inBlock, ↓reduceIte]
 refine ret1 rfl hF rfl ⟨congrArg Value.bool (Eq.symm ?_), hS.old⟩
 rw [Bool.eq_iff_iff]; simp only [zb3, zb4, zb7, and_assoc]; rw [state_eq]
 exact ⟨fun ⟨h1, h2, h3, h4, h5, h6, h7, h8⟩ => ⟨h1, h2, h3, h8, h4, h5, h6, h7⟩, fun ⟨h1, h2, h3, h8, h4, h5, h6, h7⟩ => ⟨h1, h2, h3, h4, h5, h6, h7, h8⟩⟩
set_option maxHeartbeats 4000000 in
set_option maxRecDepth 20000 in
theorem big_c {W : World} {vb : Value} {bs : List Int} (hb : byteEK.Rd W vb bs) : Calls Tryz.prog 7 #[vb] W (Ret fun v w' => v = .bool (decide (1048576 < bs.length)) ∧ Below W.heap.size W w') := by
 refine calls_fr Tryz.func7 rfl Tryz.ntmps7 rfl ?_
 intro a hF
 have hS := Sep.refl W
 obtain ⟨A_b, q_b, rfl, hq_b, hn_b⟩ := hb.sl; unfold maxLen at hn_b
 refine ws fun K1 hK1 => ?_
 refine ra 1 hF tk rfl fun a hF => ?_
 refine wl_nil (hK1 _ _ ?_)
 refine ws fun K2 hK2 => ?_
 refine ra 4 hF tk rfl fun a hF => ?_
 refine wl_nil (hK2 _ _ ?_)
 refine wp_ret ?_
 try simp only [Exit.then, Exit.inBlock, ↓reduceIte]
 refine ret1 rfl hF rfl ⟨congrArg Value.bool (decide_eq_decide.2 (by omega)), hS.old⟩
set_option maxHeartbeats 4000000 in
set_option maxRecDepth 20000 in
theorem sameInts_c {W : World} {va vb : Value} {xs ys : List Int} (ha : intEK.Rd W va xs) (hb : intEK.Rd W vb ys) : Calls Tryz.prog 15 #[va, vb] W (Ret fun v w' => v = .bool (decide (xs = ys)) ∧ Below W.heap.size W w') := by
 refine calls_fr Tryz.func15 rfl Tryz.ntmps15 rfl ?_
 intro a hF
 obtain ⟨A_a, q_a, rfl, hq_a, hn_a⟩ := ha.sl; unfold maxLen at hn_a
 obtain ⟨A_b, q_b, rfl, hq_b, hn_b⟩ := hb.sl; unfold maxLen at hn_b
 have hS := Sep.refl W
 refine ws fun K1 hK1 => ?_
 refine ra 1 hF tk rfl fun a hF => ?_
 refine wl_nil (hK1 _ _ ?_)
 refine wp_seq_k fun K2 hK2 => ?_
 refine ws fun K3 hK3 => ?_
 refine ra 5 hF tk rfl fun a hF => ?_
 refine wl_nil (hK3 _ _ ?_)
 first | refine wc_dec (hF.ev rfl) (fun c10 => ?_) (fun c10 => ?_) | refine wc_ndec (hF.ev rfl) (fun c10 => ?_) (fun c10 => ?_) | refine wc_b (hF.ev rfl) (fun c10 => ?_) (fun c10 => ?_)
 ·
  refine ws fun K4 hK4 => ?_
  refine ra 1 hF tk rfl fun a hF => ?_
  refine wl_nil (hK4 _ _ ?_)
  refine wp_ret ?_
  try simp only [Exit.then, Exit.inBlock, ↓reduceIte]
  refine ret1 rfl hF rfl ⟨?_, hS.old⟩
  first | exact eq_len c10 | exact eq_at hx hy c25 | exact eq_all htk hk hlen (by omega)
 refine wp_skip ?_
 refine hK2 _ _ ?_
 refine wp_seq_k fun K5 hK5 => ?_
 refine ws fun K6 hK6 => ?_
 refine ra 1 hF tk rfl fun a hF => ?_
 refine wl_nil (hK6 _ _ ?_)
 refine wp_block ?_
 refine wp_loop_g (σ := Nat) (fun k a w => k ≤ xs.length ∧ xs.length = ys.length ∧ xs.take k = ys.take k ∧ Sep W [] w ∧ Fr 26 [(5, vi k), (0, .slice A_a xs.length q_a), (1, .slice A_b ys.length q_b)] a) (fun k => xs.length - k) 0 ?_ ?_
 · exact ⟨Nat.zero_le _, by omega, rfl, hS, (((hF.nil.keep hF (t := 1) rfl).keep hF (t := 0) rfl).keep hF (t := 5) rfl)⟩
 clear hF hS a
 rintro k a w ⟨hk, hlen, htk, hS, hF⟩
 refine wp_seq_k fun K7 hK7 => ?_
 refine ws fun K8 hK8 => ?_
 refine ra 4 hF tk rfl fun a hF => ?_
 refine wl_nil (hK8 _ _ ?_)
 first | refine wc_dec (hF.ev rfl) (fun c14 => ?_) (fun c14 => ?_) | refine wc_ndec (hF.ev rfl) (fun c14 => ?_) (fun c14 => ?_) | refine wc_b (hF.ev rfl) (fun c14 => ?_) (fun c14 => ?_)
 ·
  have hlt : k < xs.length := by omega
  obtain ⟨x, hx⟩ : ∃ x, xs[k]? = some x := ⟨_, List.getElem?_eq_getElem hlt⟩
  obtain ⟨y, hy⟩ : ∃ y, ys[k]? = some y := ⟨_, List.getElem?_eq_getElem (by omega)⟩
  refine wp_skip ?_
  refine hK7 _ _ ?_
  refine wp_seq_k fun K9 hK9 => ?_
  refine wp_block ?_
  refine wp_seq_k fun K10 hK10 => ?_
  refine wp_region_calm (by kernel_rfl) (by kernel_rfl) ?_
  refine qa 2 hF tk rfl fun a hF => ?_
  obtain ⟨g19, o19, m19, q19, hv19, hm19, hl19, hc19⟩ := Rd.idxF (hS.rd ha) hx
  refine wq hF rfl rfl rfl (fun w_ hB_ => r_index sl26 ((hF.ev rfl).trans hv19) (hF.ev rfl) (by omega) (by omega)) fun a hF => ?_
  refine wq hF rfl rfl rfl (fun w_ hB_ => r_load1 sc3 (hF.ev rfl) (cellB hB_ (hc19 0 _ rfl))) fun a hF => ?_
  refine qa 2 hF tk rfl fun a hF => ?_
  obtain ⟨g23, o23, m23, q23, hv23, hm23, hl23, hc23⟩ := Rd.idxF (hS.rd hb) hy
  refine wq hF rfl rfl rfl (fun w_ hB_ => r_index sl26 ((hF.ev rfl).trans hv23) (hF.ev rfl) (by omega) (by omega)) fun a hF => ?_
  refine wq hF rfl rfl rfl (fun w_ hB_ => r_load1 sc3 (hF.ev rfl) (cellB hB_ (hc23 0 _ rfl))) fun a hF => ?_
  refine qa 1 hF tk rfl fun a hF => ?_
  refine wpQuiet_nil ?_; intro w1 hB_; have hS := hS.ext hB_
  refine hK10 _ _ ?_
  first | refine wc_dec (hF.ev rfl) (fun c25 => ?_) (fun c25 => ?_) | refine wc_ndec (hF.ev rfl) (fun c25 => ?_) (fun c25 => ?_) | refine wc_b (hF.ev rfl) (fun c25 => ?_) (fun c25 => ?_)
  ·
   refine ws fun K11 hK11 => ?_
   refine ra 1 hF tk rfl fun a hF => ?_
   refine wl_nil (hK11 _ _ ?_)
   refine wp_ret ?_
   try simp only [Exit.then, Exit.inBlock, ↓reduceIte]
   refine ret1 rfl hF rfl ⟨?_, hS.old⟩
   first | exact eq_len c10 | exact eq_at hx hy c25 | exact eq_all htk hk hlen (by omega)
  refine wp_skip ?_
  simp only [Exit.then, Exit.inBlock, ↓reduceIte]
  refine hK9 _ _ ?_
  refine wp_region_lit ?_
  refine ra 3 hF tk rfl fun a hF => ?_
  refine wl_nil ?_
  try simp only [Exit.then, Exit.inBlock, ↓reduceIte]
  exact ⟨k + 1, ⟨by omega, hlen, take_next htk hx hy c25, hS, (((hF.nil.keep hF (t := 1) rfl).keep hF (t := 0) rfl).keepE hF (t := 5) rfl (wk (by omega)))⟩, by omega⟩
 refine wp_exit ?_
 simp only [Exit.then, Exit.inBlock, ↓reduceIte]
 refine hK5 _ _ ?_
 refine ws fun K12 hK12 => ?_
 refine ra 1 hF tk rfl fun a hF => ?_
 refine wl_nil (hK12 _ _ ?_)
 refine wp_ret ?_
 try simp only [Exit.then, Exit.inBlock, ↓reduceIte]
 refine ret1 rfl hF rfl ⟨?_, hS.old⟩
 first | exact eq_len c10 | exact eq_at hx hy c25 | exact eq_all htk hk hlen (by omega)
set_option maxHeartbeats 4000000 in
set_option maxRecDepth 20000 in
theorem btoi_c {W : World} {b : Bool} : Calls Tryz.prog 16 #[.bool b] W (Ret fun v w' => v = vi (if b = true then 1 else 0) ∧ Below W.heap.size W w') := by
 refine calls_fr Tryz.func16 rfl Tryz.ntmps16 rfl ?_
 intro a hF
 have hS := Sep.refl W
 refine ws fun K1 hK1 => ?_
 refine ra 1 hF tk rfl fun a hF => ?_
 refine wl_nil (hK1 _ _ ?_)
 refine wp_seq_k fun K2 hK2 => ?_
 refine ws fun K3 hK3 => ?_
 refine ra 1 hF tk rfl fun a hF => ?_
 refine wl_nil (hK3 _ _ ?_)
 refine wc_fx (t := 3) hF rfl ?_ ?_ <;> clear hF <;> intro c3 hF <;> try simp only [zb] at c3
 ·
  refine ws fun K4 hK4 => ?_
  refine ra 1 hF tk rfl fun a hF => ?_
  refine wl_nil (hK4 _ _ ?_)
  refine wp_ret ?_
  try simp only [Exit.then, Exit.inBlock, ↓reduceIte]
  refine ret1 rfl hF rfl ⟨congrArg vi ?_, hS.old⟩
  cases b with
  | true => first | rfl | (exfalso; simp at c3; done)
  | false => first | rfl | (exfalso; simp at c3; done)
 refine wp_skip ?_
 refine hK2 _ _ ?_
 refine ws fun K5 hK5 => ?_
 refine ra 1 hF tk rfl fun a hF => ?_
 refine wl_nil (hK5 _ _ ?_)
 refine wp_ret ?_
 try simp only [Exit.then, Exit.inBlock, ↓reduceIte]
 refine ret1 rfl hF rfl ⟨congrArg vi ?_, hS.old⟩
 cases b with
 | true => first | rfl | (exfalso; simp at c3; done)
 | false => first | rfl | (exfalso; simp at c3; done)
end Go.Proofs.YtgofolgogfmhgaaGreat.Wk
namespace Go.Proofs.YtgofolgogfmhgaaGreat.Wk
open Go Go.RowKit Sl
set_option linter.unusedVariables false
set_option linter.unusedSimpArgs false
set_option maxRecDepth 20000
section
variable {c : Config} {t : Sl.Thread} {o : Sl.Op} {s : Sl.State} {p : Nat} {i g : Int}
theorem stateOk_set (hs : stateOk s = true) (ht : threadOk s.config t = true) : stateOk (setT s p t) = true := by
 unfold stateOk at *
 simp only [Bool.and_eq_true, decide_eq_true_eq] at *
 obtain ⟨⟨⟨⟨⟨h1, h2⟩, h3⟩, h4⟩, h5⟩, h6⟩ := hs
 refine ⟨⟨⟨⟨⟨⟨h1.1, h1.2.1, h1.2.2.1, ?_⟩, h2⟩, ?_⟩, h4⟩, h5⟩, h6⟩
 · show ((s.threads.set p t).length : Int) = s.config.threads
   rw [List.length_set]; exact h1.2.2.2
 · show (s.threads.set p t).all (threadOk s.config) = true
   rw [List.all_eq_true] at h3 ⊢
   exact fun x hx => (List.mem_or_eq_of_mem_set hx).elim (h3 x) (fun e => e ▸ ht)
theorem makeHandle_eq (h0 : 0 ≤ i) (h1 : i ≤ 62) (h2 : 0 ≤ g) (h3 : g ≤ 9999) : makeHandle i g = (g * 64 + i + 1) * 2 := by
 unfold makeHandle
 rw [if_pos ⟨⟨h0, h1⟩, h2, h3⟩, w64_id (q := g * 64) (by omega) (by omega), w64_id (q := g * 64 + i) (by omega) (by omega), w64_id (q := g * 64 + i + 1) (by omega) (by omega), w64_id (by omega) (by omega)]
theorem link_make (h0 : 0 ≤ i) (h1 : i < c.capacity) (h1' : i ≤ 62) (h2 : 0 ≤ g) (h3 : g ≤ 9999) : isLink c (makeHandle i g) = true := by
 rw [makeHandle_eq h0 h1' h2 h3]
 have hh : isHandle ((g * 64 + i + 1) * 2) = true := isHandle_iff.2 ⟨by omega, by omega, by omega⟩
 have hx : indexOf ((g * 64 + i + 1) * 2) = i := by unfold indexOf; rw [if_pos hh]; omega
 have hm : isMarked ((g * 64 + i + 1) * 2) = false := by
   unfold isMarked; rw [hh, decide_eq_false (show ¬ (g * 64 + i + 1) * 2 = 1 by omega), decide_eq_false (show ¬ (g * 64 + i + 1) * 2 % 2 = 1 by omega)]; rfl
 unfold isLink isNode
 rw [hh, hx, hm, decide_eq_true h1]; simp
theorem link_zero : isLink c 0 = true := by unfold isLink; simp
theorem zero_zero : zeroOk c 0 = true := by unfold zeroOk unmarked isMarked isHandle; simp
theorem startT_ok (hc : c.ok) (hk : o.key < c.keys) (ho : o.ok) (ht : threadOk c t = true) {gs : List Int} (hg : ∀ i : Int, 0 ≤ i → i < c.capacity → 0 ≤ at0 gs i ∧ at0 gs i ≤ 9998) (hl : (0 : Int) < t.free.length → 0 ≤ lastF t ∧ lastF t < c.capacity) : threadOk c (startT t o gs) = true := by
 have hb := hc; unfold Config.ok at hb
 unfold threadOk at ht
 simp only [Bool.and_eq_true, decide_eq_true_eq] at ht
 obtain ⟨⟨⟨⟨⟨h1, h2⟩, h3⟩, h4⟩, h5⟩, h6⟩ := ht
 have hz := h6; unfold sizesOk at hz
 have key : ∀ (fr : List Int) (nd pc : Int), (fr.all fun x => decide (0 ≤ x ∧ x ≤ c.capacity - 1)) = true → fr.length ≤ t.free.length → isLink c nd = true → pc ∈ pcs → pc ≠ 60 → pc ≠ 61 → pc ≠ 70 → threadOk c { endT { t with op := o } 0 0 with free := fr, node := nd, pc := pc } = true := by
   intro fr nd pc f1 f2 f3 f4 f5 f6 f7
   unfold threadOk
   simp only [Bool.and_eq_true, decide_eq_true_eq]
   refine ⟨⟨⟨⟨⟨f1, h2⟩, ?_⟩, ?_⟩, h5⟩, ?_⟩
   · unfold pcOk endT clearT; dsimp only
     exact ⟨⟨f4, .inr ⟨ho, hk⟩⟩, fun h => by omega, fun _ => by omega, fun h => (f7 h).elim⟩
   · unfold regsOk endT clearT; dsimp only
     rw [f3, link_zero, zero_zero]; rfl
   · unfold sizesOk endT clearT; dsimp only
     simp only [List.length_nil]; omega
 have hn : isLink c (endT { t with op := o } 0 0).node = true := link_zero
 unfold startT
 repeat' split
 · exact key t.free 0 1 h1 (Nat.le_refl _) link_zero (by decide) (by decide) (by decide) (by decide)
 · exact key t.free 0 10 h1 (Nat.le_refl _) link_zero (by decide) (by decide) (by decide) (by decide)
 · exact key t.free 0 80 h1 (Nat.le_refl _) link_zero (by decide) (by decide) (by decide) (by decide)
 · exact key t.free 0 50 h1 (Nat.le_refl _) link_zero (by decide) (by decide) (by decide) (by decide)
 · rename_i hf
   obtain ⟨l0, l1⟩ := hl hf
   have hgs := hg _ l0 l1
   refine key _ _ 32 ?_ (by rw [List.length_take]; omega) (link_make l0 l1 (by omega) hgs.1 (by omega)) (by decide) (by decide) (by decide) (by decide)
   rw [List.all_eq_true]
   exact fun x hx => (List.all_eq_true.1 h1) x (List.mem_of_mem_take hx)
 · exact key t.free 0 30 h1 (Nat.le_refl _) link_zero (by decide) (by decide) (by decide) (by decide)
end
theorem ok_gens {s : Sl.State} (h : stateOk s = true) {i : Int} (h0 : 0 ≤ i) (h1 : i < s.config.capacity) : 0 ≤ at0 s.generations i ∧ at0 s.generations i ≤ 9998 := by
 unfold stateOk at h; simp only [Bool.and_eq_true] at h
 have := h.1.1.1.1.2
 unfold gensOk at this
 have h2 := List.all_eq_true.1 this i.toNat (List.mem_range.2 (by omega))
 rw [show ((i.toNat : Nat) : Int) = i from by omega] at h2
 exact of_decide_eq_true h2
/-- what StartOp does, by its code -/
theorem start_none {s : Sl.State} {p : Int} {o : Sl.Op} (h : (startS s p o).2 = 0) : (startS s p o).1 = s := by
 unfold startS at h ⊢
 split
 · rename_i hc; rw [if_pos hc] at h; split at h <;> cases h
 · rfl
theorem start_code {s : Sl.State} {p : Int} {o : Sl.Op} : (startS s p o).2 = 0 ∨ (startS s p o).2 = 1 ∨ (startS s p o).2 = 2 := by
 unfold startS
 split
 · split
   · exact .inr (.inl rfl)
   · exact .inr (.inr rfl)
 · exact .inl rfl
theorem start_guard {s : Sl.State} {p : Int} {o : Sl.Op} (h : ¬ (startS s p o).2 = 0) : (stateOk s = true ∧ (0 ≤ p ∧ p ≤ s.threads.length - 1)) ∧ o.ok ∧ (at0 s.threads p).pc = 0 := by
 refine Decidable.byContradiction fun g => h ?_
 unfold startS; rw [if_neg g]
theorem start_done {s : Sl.State} {p : Int} {o : Sl.Op} (h : (startS s p o).2 = 2) : ¬ refusalOf s p o = 0 ∧ (startS s p o).1 = setT s p.toNat (endT { at0 s.threads p with op := o } (refusalOf s p o) 0) := by
 have g := start_guard (s := s) (p := p) (o := o) (by omega)
 unfold startS at h ⊢
 rw [if_pos g] at h ⊢
 split at h
 · cases h
 · rename_i hr; rw [if_neg hr]; exact ⟨hr, rfl⟩
theorem start_run {s : Sl.State} {p : Int} {o : Sl.Op} (h : (startS s p o).2 = 1) : refusalOf s p o = 0 ∧ (startS s p o).1 = setT s p.toNat (startT (at0 s.threads p) o s.generations) := by
 have g := start_guard (s := s) (p := p) (o := o) (by omega)
 unfold startS at h ⊢
 rw [if_pos g] at h ⊢
 split at h
 · rename_i hr; rw [if_pos hr]; exact ⟨hr, rfl⟩
 · cases h
theorem at0_setT {s : Sl.State} {p : Int} {t : Sl.Thread} (h0 : 0 ≤ p) (h1 : p ≤ s.threads.length - 1) : at0 (setT s p.toNat t).threads p = t := by
 unfold setT at0; dsimp only
 rw [List.getElem?_set_self (by omega)]; rfl
theorem start_running {s : Sl.State} {p : Int} {o : Sl.Op} (hw : s.wf) (h : (startS s p o).2 = 1) : isRunning (startS s p o).1 p = true := by
 obtain ⟨⟨hs, h0, h1⟩, ho, hpc⟩ := start_guard (s := s) (p := p) (o := o) (by omega)
 obtain ⟨hr, he⟩ := start_run h
 rw [he]
 obtain ⟨hok, _, _, _⟩ := stateOk_shape hs
 have hb := hok; unfold Config.ok at hb
 have hk : o.key < s.config.keys := by
   unfold refusalOf at hr
   rw [if_pos ⟨hs, ⟨h0, h1⟩, ho⟩] at hr
   split at hr
   · cases hr
   · omega
 obtain ⟨k, rfl⟩ : ∃ k : Nat, p = (k : Int) := ⟨p.toNat, by omega⟩
 have hf : Fit s (at0 s.threads (k : Int)) := Fit.of hs hw (by omega)
 have ht := startT_ok (gs := s.generations) hok hk ho hf.th (fun i a b => ok_gens hs a b) (fun a => hf.last a)
 unfold isRunning
 rw [stateOk_set hs ht, at0_setT h0 h1]
 have e1 : ((setT s (k : Int).toNat (startT (at0 s.threads (k : Int)) o s.generations)).threads.length : Int) = s.threads.length := by unfold setT; simp
 rw [e1, decide_eq_true (show 0 ≤ (k : Int) ∧ (k : Int) ≤ s.threads.length - 1 from ⟨h0, h1⟩)]
 have e2 : ¬ (startT (at0 s.threads (k : Int)) o s.generations).pc = 0 := by
   unfold startT; repeat' split
   all_goals (dsimp only; omega)
 rw [decide_eq_false e2]; rfl
theorem start_idle {s : Sl.State} {p : Int} {o : Sl.Op} (h : (startS s p o).2 = 2) : isRunning (startS s p o).1 p = false := by
 obtain ⟨⟨hs, h0, h1⟩, ho, hpc⟩ := start_guard (s := s) (p := p) (o := o) (by omega)
 rw [(start_done h).2]
 unfold isRunning
 rw [at0_setT h0 h1]
 have : (endT { at0 s.threads p with op := o } (refusalOf s p o) 0).pc = 0 := rfl
 rw [this]; simp
theorem start_free {s : Sl.State} {p : Int} {o : Sl.Op} (h : (startS s p o).2 = 1) : ((at0 s.threads p).free.length : Int) - ((at0 (startS s p o).1.threads p).free.length : Int) = if o.kind = 3 ∧ (0 : Int) < (at0 s.threads p).free.length then 1 else 0 := by
 obtain ⟨⟨hs, h0, h1⟩, ho, hpc⟩ := start_guard (s := s) (p := p) (o := o) (by omega)
 rw [(start_run h).2, at0_setT h0 h1]
 unfold Sl.Op.ok at ho
 unfold startT endT clearT
 repeat' split
 all_goals (dsimp only; try rw [List.length_take])
 all_goals omega
theorem start_cells {s : Sl.State} {p : Int} {o : Sl.Op} : (startS s p o).1.cells = s.cells ∧ (startS s p o).1.steps = s.steps := by
 unfold startS; repeat' split
 all_goals exact ⟨rfl, rfl⟩
end Go.Proofs.YtgofolgogfmhgaaGreat.Wk
namespace Go.Proofs.YtgofolgogfmhgaaGreat.Wk
open Go Go.RowKit Sl
set_option linter.unusedVariables false
set_option linter.unusedSimpArgs false
set_option maxRecDepth 20000
set_option maxHeartbeats 4000000 in
set_option maxRecDepth 20000 in
theorem implStartOp_c {W : World} {s : Sl.State} {cs : List Value} {p : Int} {o : Sl.Op} (hm : stateEK.K W s cs) (hw : s.wf) (hz : (s.size : Int) ≤ 1048576) (hp0 : int64 p) : Calls Tryz.prog 9 #[.agg cs.toArray, vi p, .agg o.enc.toArray] W (Ret (Mk W (fun vs => .tuple #[.agg (stateEK.cells (startS s p o).1 vs).toArray, vi (startS s p o).2]) (fun vs => [Part stateEK (startS s p o).1 vs]))) := by
 refine calls_fr Tryz.func9 rfl Tryz.ntmps9 rfl ?_
 intro a hF
 have hS := Sep.refl W
 obtain ⟨v0, v1, v2, rfl, r0, r1, r2⟩ := hm
 have hm : stateEK.K W s (s.encv v0 v1 v2) := ⟨_, _, _, rfl, r0, r1, r2⟩
 obtain ⟨A_a, q_a, rfl, hq_a, hn_a⟩ := r0.sl; unfold maxLen at hn_a
 obtain ⟨A_b, q_b, rfl, hq_b, hn_b⟩ := r1.sl; unfold maxLen at hn_b
 obtain ⟨A_c, q_c, rfl, hq_c, hn_c⟩ := r2.sl; unfold maxLen at hn_c
 have hwl : IntKind.i64.wrap ((s.threads.length : Int) - 1) = s.threads.length - 1 := w64_id (by omega) (by omega)
 refine ws fun K1 hK1 => ?_
 refine wl_box (cs := [_, _, _, _, _, _, _, _, _, _, _, _, _]) hF hS rfl (hF.ev rfl) rfl ?_; clear hF a; intro g1 w1 a hS_ hB_ hF; replace hS := hS_; clear hS_ hB_
 refine wl_box (cs := [_, _, _]) hF hS rfl (hF.ev rfl) rfl ?_; clear hF a; intro g2 w2 a hS_ hB_ hF; replace hS := hS_; clear hS_ hB_
 refine wl_alloc hF hS rfl zr29 ?_; clear hF a; intro g3 w3 a hS_ hB_ hF; replace hS := hS_; clear hS_ hB_
 refine ra 1 hF tk rfl fun a hF => ?_
 refine wl_nil (hK1 _ _ ?_)
 refine ws fun K2 hK2 => ?_
 refine rb 1 2 hF tk hS rfl rfl rfl fun a hF => ?_
 refine wl_mk hF hS rfl rfl rfl (r_call1 en39 (hF.ev rfl)) (copyState_c (hS.k hm) (by omega)) ?_; clear hF a; rintro vs13 w4 a hS_ hF; replace hS := hS_; clear hS_; dsimp only [List.cons_append, List.nil_append] at hS
 refine wl_alloc hF hS rfl zr29 ?_; clear hF a; intro g4 w5 a hS_ hB_ hF; replace hS := hS_; clear hS_ hB_
 refine wl_storew hF hS (i := 0) rfl (hF.ev rfl) (hF.ev rfl) sz29 rfl rfl fun w6 hS => ?_; dsimp only [List.set, Nat.reduceAdd] at hS
 refine wl_nil (hK2 _ _ ?_)
 refine wp_seq_k fun K3 hK3 => ?_
 refine ws fun K4 hK4 => ?_
 refine rb 2 4 hF tk hS rfl rfl rfl fun a hF => ?_
 refine wl_call hF rfl rfl rfl (r_call2 en40 (hF.ev rfl) (hF.ev rfl)) (hasThread_c (hS.k hm) hw (by omega) hp0) ?_; clear hF a; rintro v w7 a ⟨rfl, hB_⟩ hF; have hS := hS.ext hB_
 refine ra 2 hF tk rfl fun a hF => ?_
 apply wl_or (A := [_, _, _, _]) (pk := 22) hF hS (tc := 18) rfl
 ·
  intro hg18 a hF; try simp only [zb] at hg18
  refine rb 1 3 hF tk hS rfl rfl rfl fun a hF => ?_
  refine wl_take hF rfl rfl rfl rfl ?_
  refine wl_call hF rfl rfl rfl (r_call1 en41 (hF.ev rfl)) (implIsOp_c _) ?_; clear hF a; rintro v w8 a ⟨rfl, hB_⟩ hF; have hS := hS.ext hB_
  refine ra 2 hF tk rfl fun a hF => ?_
  exact wl_nil ⟨rfl, (Fr.pre (A := [_, _, _, _]) hF rfl).keep hF (t := 22) rfl, hS⟩
 ·
  intro hg18 a hF; try simp only [zb] at hg18
  refine ra 4 hF tk rfl fun a hF => ?_
  exact wl_nil ⟨rfl, (Fr.pre (A := [_, _, _, _]) hF rfl).keep hF (t := 22) rfl, hS⟩
 clear hF a hS; intro a w9 hF hS
 refine ra 1 hF tk rfl fun a hF => ?_
 apply wl_or (A := [_, _, _, _, _, _, _, _]) (pk := 31) hF hS (tc := 23) rfl
 ·
  intro hg23 a hF; try simp only [zb] at hg23
  have hp1_ := hg23.1.2
  refine rb 3 4 hF tk hS rfl rfl rfl fun a hF => ?_
  refine wl_take hF rfl rfl rfl rfl ?_
  obtain ⟨g27, o27, m27, q27, cs27, hv27, hm27, hl27, hk27, hz27, hc27⟩ := Rd.at (r2) (a := a) (X := .tmp 26) (hF.ev rfl) (by omega) (by omega)
  have hkk27 := hk27; obtain ⟨v27_0, v27_1, v27_2, v27_3, v27_4, rfl, r27_0, r27_1, r27_2, r27_3, r27_4⟩ := hk27
  refine wl hF rfl rfl rfl (r_index sl27 ((hF.ev rfl).trans hv27) (hF.ev rfl) (by omega) (by first | omega | (simp at hm27; omega))) fun a hF => ?_
  refine ra 1 hF tk rfl fun a hF => ?_
  refine wl_take hF rfl rfl rfl rfl ?_
  refine wl hF rfl rfl rfl (r_load1 sc3 (hF.ev rfl) (cellB hS.old (hc27 0 _ rfl))) fun a hF => ?_
  refine ra 2 hF tk rfl fun a hF => ?_
  exact wl_nil ⟨rfl, (Fr.pre (A := [_, _, _, _, _, _, _, _]) hF rfl).keep hF (t := 31) rfl, hS⟩
 ·
  intro hg23 a hF; try simp only [zb] at hg23
  refine ra 8 hF tk rfl fun a hF => ?_
  exact wl_nil ⟨rfl, (Fr.pre (A := [_, _, _, _, _, _, _, _]) hF rfl).keep hF (t := 31) rfl, hS⟩
 clear hF a hS; intro a w10 hF hS
 refine wl_nil (hK4 _ _ ?_)
 refine wc_fx (t := 31) hF rfl ?_ ?_ <;> clear hF <;> intro c31 hF <;> try simp only [zb] at c31
 ·
  refine ws fun K5 hK5 => ?_
  refine rb 1 0 hF tk hS rfl rfl rfl fun a hF => ?_
  refine wl_storew hF hS (i := 2) rfl (hF.ev rfl) (hF.ev rfl) sz29 rfl rfl fun w11 hS => ?_; dsimp only [List.set, Nat.reduceAdd] at hS
  refine ra 1 hF tk rfl fun a hF => ?_
  refine wl_nil (hK5 _ _ ?_)
  refine wp_ret ?_
  try simp only [Exit.then, Exit.inBlock, ↓reduceIte]
  have e : startS s p o = (s, 0) := if_neg (by
    rintro ⟨⟨a, b⟩, c, d⟩
    rcases c31 with (h | h) | h
    · first | omega | (rcases h with h | h; (rw [a] at h; cases h); exact h b)
    · exact h c
    · exact h d)
  refine ret2c rfl ag29 hF hS (i := 2) rfl sz29 rfl rfl ⟨vs13, ?_, ?_⟩
  · rw [e] <;> rfl
  · rw [e]; exact hS.pick [1] (by decide) rfl
 obtain ⟨hso, hp1⟩ := (⟨c31.1.1.1, by omega⟩ : stateOk s = true ∧ (0 ≤ p ∧ p < s.threads.length))
 obtain ⟨p, rfl⟩ : ∃ k : Nat, p = (k : Int) := ⟨p.toNat, by omega⟩
 have hp : p < s.threads.length := by omega
 have hxt := at0_nat hp
 replace hS := hS.pull (p := 1) rfl; dsimp only [List.eraseIdx] at hS
 replace hS : Sep W (Own intEK (sv (vs13.getD 0 (none, 0, 0))) s.cells :: Own intEK (sv (vs13.getD 1 (none, 0, 0))) s.generations :: Own threadEK (sv (vs13.getD 2 (none, 0, 0))) s.threads :: _) _ := hS.part_open
 dsimp only [stateEK] at hS
 generalize vs13.getD 0 (none, 0, 0) = z0 at hS
 generalize vs13.getD 1 (none, 0, 0) = z1 at hS
 generalize vs13.getD 2 (none, 0, 0) = z2 at hS
 obtain ⟨gt, ot, mt, ct, rfl⟩ := hS.elt_form (q := 2) rfl hxt
 have hmt : mt = s.threads.length := hS.own_len (q := 2) (s := (some ⟨gt, ot, none⟩, mt, ct)) rfl
 replace hS := hS.set_form (q := 2) rfl hxt; dsimp only [List.set] at hS
 have hf := Fit.of hso hw hp
 have hlg := hf.lg
 have hpc0 : (at0 s.threads (p : Int)).pc = 0 := c31.2
 have hrc : refusalOf s (p : Int) o = refusalOf s (p : Int) o := rfl
 have hz1 := hf.sizes; unfold sizesOk at hz1
 have hgo : (stateOk s = true ∧ (0 ≤ (p : Int) ∧ (p : Int) ≤ s.threads.length - 1)) ∧ o.ok ∧ (at0 s.threads (p : Int)).pc = 0 := ⟨c31.1.1, c31.1.2, hpc0⟩
 have hop := hgo.2.1; unfold Op.ok at hop
 refine wp_skip ?_
 refine hK3 _ _ ?_
 refine ws fun K6 hK6 => ?_
 refine rb 3 3 hF tk hS rfl rfl rfl fun a hF => ?_
 refine wl hF rfl rfl rfl (r_index sl27 (hF.ev rfl) (hF.ev rfl) (by omega) (by first | omega | (dsimp only; omega))) fun a hF => ?_
 refine ra 1 hF tk rfl fun a hF => ?_
 refine wl_nil (hK6 _ _ ?_)
 refine ws fun K7 hK7 => ?_
 refine ra 1 hF tk rfl fun a hF => ?_
 replace hS := Sep.headp (A := [_, _, _, _, _, _, _]) (B := [_, _, _, _, _, _, _]) hS [2, 0, 1, 3, 4, 5, 6] (by decide) rfl rfl
 refine wl_call hF rfl rfl rfl (r_call1 en42 (hF.ev rfl)) (thClear_c hp hS) ?_; clear hF a; rintro v w12 a ⟨rfl, hS⟩ hF
 refine wl_nil (hK7 _ _ ?_)
 refine wp_seq_k fun K8 hK8 => ?_
 refine wp_region_todo (is := [0, 1, 2, 3, 4, 5, 6, 7, 8, 9, 10, 11, 12, 13]) [] [10, 11, 12, 13] (by kernel_rfl) hF hS ⟨trivial, by decide, by decide, by decide⟩ (by kernel_rfl) ?_; clear hF; intro hl_ wd hSd
 refine todo_pure hl_ (by kernel_rfl) rfl (gw0 rfl) rfl rfl rfl (fun a w_ hF => r_move (hF.ev rfl)) ?_
 refine todo_pure hl_ (by kernel_rfl) rfl (gw0 rfl) rfl rfl rfl (fun a w_ hF => r_move (hF.ev rfl)) ?_
 refine todo_load [8, 9, 10, 11, 12, 13] hl_ (by kernel_rfl) rfl (gw0 rfl) rfl rfl rfl (fun a w_ hF hB_ => r_loadn ag31 (hF.ev rfl) ((hSd.ext hB_).box_rd (i := 5) rfl) sz31) ?_
 refine todo_load [6, 7, 8, 9, 10, 11, 12, 13] hl_ (by kernel_rfl) rfl (gw0 rfl) rfl rfl rfl (fun a w_ hF hB_ => r_loadn ag29 (hF.ev rfl) ((hSd.ext hB_).box_rd (i := 6) rfl) sz29) ?_
 refine todo_pure hl_ (by kernel_rfl) rfl (gw0 rfl) rfl rfl rfl (fun a w_ hF => r_move (hF.ev rfl)) ?_
 refine todo_load [6, 7, 8, 9, 10, 11, 12, 13] hl_ (by kernel_rfl) rfl (gw0 rfl) rfl rfl rfl (fun a w_ hF hB_ => r_loadn ag31 (hF.ev rfl) ((hSd.ext hB_).box_rd (i := 5) rfl) sz31) ?_
 refine todo_rd hl_ rfl (by kernel_rfl) rfl rfl rfl rfl rfl (fun a w_ hF => r_call3 en11 (hF.ev rfl) (hF.ev rfl) (hF.ev rfl)) (fun w_ hS => implRefusal_c (hS.k hm) hw (by omega) hp0) ?_
 refine todo_pure hl_ (by kernel_rfl) rfl (gw0 rfl) rfl rfl rfl (fun a w_ hF => r_build (bd39_0 _) ⟨rfl, (hF.ev rfl), trivial⟩) ?_
 refine todo_pure hl_ (by kernel_rfl) rfl (gw0 rfl) rfl rfl rfl (fun a w_ hF => r_nilCheck (hF.ev rfl)) ?_
 refine todo_pure hl_ (by kernel_rfl) rfl (gw0 rfl) rfl rfl rfl (fun a w_ hF => r_field fo42_1 (hF.ev rfl)) ?_
 refine todo_fin hl_ rfl (by kernel_rfl) (tl := [_, _, _, _]) rfl ?_; clear hS a; intro a w13 hF hA_
 have hS := hA_.sep; clear hA_
 clear hl_; try clear hSd
 try dsimp only [List.cons_append, List.nil_append, List.set] at hS
 try clear wd
 refine wl_estoren (us := [_, _, _]) (q := 0) (j := 1) (⟨_, ⟨_, _, _⟩, ⟨_, _⟩, _, _, _, _, _, _, _, _, _, _, _, _, _⟩ : Sl.Thread) hF hS hp rfl sz31 (hF.ev rfl) rfl ((hF.ev rfl).trans rfl) rfl (fun _ => ⟨rfl, rfl⟩) (fun _ => by dsimp only [threadEK, Thread.encv, List.take, List.drop, List.cons_append, List.nil_append, List.length_cons, List.length_nil, Nat.reduceAdd] <;> rfl) (by intro _; rfl) fun w14 hS => ?_; dsimp only [List.set] at hS
 refine ra 2 hF tk rfl fun a hF => ?_
 refine wl_estoren (us := [_, _]) (q := 0) (j := 4) (⟨_, ⟨_, _, _⟩, ⟨_, _⟩, _, _, _, _, _, _, _, _, _, _, _, _, _⟩ : Sl.Thread) hF hS hp rfl sz39 (hF.ev rfl) rfl ((hF.ev rfl).trans rfl) rfl (fun _ => ⟨rfl, rfl⟩) (fun _ => by dsimp only [threadEK, Thread.encv, List.take, List.drop, List.cons_append, List.nil_append, List.length_cons, List.length_nil, Nat.reduceAdd] <;> rfl) (by intro _; rfl) fun w15 hS => ?_; dsimp only [List.set] at hS
 refine wl_nil ⟨rfl, ?_⟩
 refine hK8 _ _ ?_
 refine wp_seq_k fun K9 hK9 => ?_
 refine ws fun K10 hK10 => ?_
 refine ra 4 hF tk rfl fun a hF => ?_
 refine wl hF rfl rfl rfl (r_load1 sc3 (hF.ev rfl) (hS.elt1 (q := 0) (j := 4) hp rfl (fun _ => rfl))) fun a hF => ?_
 refine ra 1 hF tk rfl fun a hF => ?_
 refine wl_nil (hK10 _ _ ?_)
 refine wc_fx (t := 56) hF rfl ?_ ?_ <;> clear hF <;> intro c56 hF <;> try simp only [zb] at c56
 ·
  refine ws fun K11 hK11 => ?_
  refine rb 1 3 hF tk hS rfl rfl rfl fun a hF => ?_
  refine wl_storew hF hS (i := 4) rfl (hF.ev rfl) (hF.ev rfl) sz29 rfl rfl fun w16 hS => ?_; dsimp only [List.set, Nat.reduceAdd] at hS
  refine ra 1 hF tk rfl fun a hF => ?_
  refine wl_nil (hK11 _ _ ?_)
  refine wp_ret ?_
  try simp only [Exit.then, Exit.inBlock, ↓reduceIte]
  have e : startS s (p : Int) o = (setT s p (endT { (at0 s.threads (p : Int)) with op := o } (refusalOf s (p : Int) o) 0), 2) := by
    unfold startS; rw [if_pos hgo, if_neg c56]; rfl
  have e9 : endT { (at0 s.threads (p : Int)) with op := o } (refusalOf s (p : Int) o) 0 = ({ clearT (at0 s.threads (p : Int)) with op := o, result := ⟨refusalOf s (p : Int) o, 0⟩ } : Sl.Thread) := by unfold endT clearT; rw [← hpc0]
  refine ret2c rfl ag29 hF hS (i := 4) rfl sz29 rfl rfl ⟨[z0, z1, (some ⟨gt, ot, none⟩, mt, ct)], ?_, ?_⟩
  · rw [e] <;> rfl
  · rw [e, e9]; exact hS.part_of [1, 2, 0] (by decide) rfl
 rw [c56] at hS
 refine wp_skip ?_
 refine hK9 _ _ ?_
 refine wp_seq_k fun K12 hK12 => ?_
 refine ws fun K13 hK13 => ?_
 refine rb 2 5 hF tk hS rfl rfl rfl fun a hF => ?_
 refine wl_nil (hK13 _ _ ?_)
 refine wp_block ?_
 refine ws fun K14 hK14 => ?_
 refine ra 2 hF tk rfl fun a hF => ?_
 refine wl_nil (hK14 _ _ ?_)
 refine wc_fx (t := 60) hF rfl ?_ ?_ <;> clear hF <;> intro c60 hF <;> try simp only [zb] at c60
 ·
  refine wp_region_lit ?_
  refine ra 3 hF tk rfl fun a hF => ?_
  refine wl_estore (q := 0) (j := 0) (⟨_, ⟨_, _, _⟩, ⟨_, _⟩, _, _, _, _, _, _, _, _, _, _, _, _, _⟩ : Sl.Thread) hF hS hp rfl sz3 (hF.ev rfl) rfl ec rfl (fun _ => rfl) (fun _ => by dsimp only [threadEK, Thread.encv, List.set] <;> rfl) (by intro _; rfl) fun w17 hS => ?_; dsimp only [List.set] at hS
  refine wl_nil ?_
  simp only [Exit.then, Exit.inBlock, ↓reduceIte]
  refine hK12 _ _ ?_
  refine ws fun K15 hK15 => ?_
  refine rb 1 3 hF tk hS rfl rfl rfl fun a hF => ?_
  refine wl_storew hF hS (i := 4) rfl (hF.ev rfl) (hF.ev rfl) sz29 rfl rfl fun w18 hS => ?_; dsimp only [List.set, Nat.reduceAdd] at hS
  refine ra 1 hF tk rfl fun a hF => ?_
  refine wl_nil (hK15 _ _ ?_)
  refine wp_ret ?_
  try simp only [Exit.then, Exit.inBlock, ↓reduceIte]
  have e : startS s (p : Int) o = (setT s p (startT (at0 s.threads (p : Int)) o s.generations), 1) := by
    unfold startS; rw [if_pos hgo, if_pos c56]; rfl
  have e9 : startT (at0 s.threads (p : Int)) o s.generations = { endT { (at0 s.threads (p : Int)) with op := o } 0 0 with pc := 1 } := by
    unfold startT; rw [if_pos c60]
  refine ret2c rfl ag29 hF hS (i := 4) rfl sz29 rfl rfl ⟨[z0, z1, (some ⟨gt, ot, none⟩, mt, ct)], ?_, ?_⟩
  · rw [e] <;> rfl
  · rw [e, e9]; exact hS.part_of [1, 2, 0] (by decide) rfl
 refine ws fun K16 hK16 => ?_
 refine ra 2 hF tk rfl fun a hF => ?_
 refine wl_nil (hK16 _ _ ?_)
 refine wc_fx (t := 65) hF rfl ?_ ?_ <;> clear hF <;> intro c65 hF <;> try simp only [zb] at c65
 ·
  refine wp_region_lit ?_
  refine ra 3 hF tk rfl fun a hF => ?_
  refine wl_estore (q := 0) (j := 0) (⟨_, ⟨_, _, _⟩, ⟨_, _⟩, _, _, _, _, _, _, _, _, _, _, _, _, _⟩ : Sl.Thread) hF hS hp rfl sz3 (hF.ev rfl) rfl ec rfl (fun _ => rfl) (fun _ => by dsimp only [threadEK, Thread.encv, List.set] <;> rfl) (by intro _; rfl) fun w19 hS => ?_; dsimp only [List.set] at hS
  refine wl_nil ?_
  simp only [Exit.then, Exit.inBlock, ↓reduceIte]
  refine hK12 _ _ ?_
  refine ws fun K17 hK17 => ?_
  refine rb 1 3 hF tk hS rfl rfl rfl fun a hF => ?_
  refine wl_storew hF hS (i := 4) rfl (hF.ev rfl) (hF.ev rfl) sz29 rfl rfl fun w20 hS => ?_; dsimp only [List.set, Nat.reduceAdd] at hS
  refine ra 1 hF tk rfl fun a hF => ?_
  refine wl_nil (hK17 _ _ ?_)
  refine wp_ret ?_
  try simp only [Exit.then, Exit.inBlock, ↓reduceIte]
  have e : startS s (p : Int) o = (setT s p (startT (at0 s.threads (p : Int)) o s.generations), 1) := by
    unfold startS; rw [if_pos hgo, if_pos c56]; rfl
  have e9 : startT (at0 s.threads (p : Int)) o s.generations = { endT { (at0 s.threads (p : Int)) with op := o } 0 0 with pc := 10 } := by
    unfold startT; rw [if_neg c60, if_pos c65]
  refine ret2c rfl ag29 hF hS (i := 4) rfl sz29 rfl rfl ⟨[z0, z1, (some ⟨gt, ot, none⟩, mt, ct)], ?_, ?_⟩
  · rw [e] <;> rfl
  · rw [e, e9]; exact hS.part_of [1, 2, 0] (by decide) rfl
 refine ws fun K18 hK18 => ?_
 refine ra 2 hF tk rfl fun a hF => ?_
 refine wl_nil (hK18 _ _ ?_)
 refine wc_fx (t := 70) hF rfl ?_ ?_ <;> clear hF <;> intro c70 hF <;> try simp only [zb] at c70
 ·
  refine wp_region_lit ?_
  refine ra 3 hF tk rfl fun a hF => ?_
  refine wl_estore (q := 0) (j := 0) (⟨_, ⟨_, _, _⟩, ⟨_, _⟩, _, _, _, _, _, _, _, _, _, _, _, _, _⟩ : Sl.Thread) hF hS hp rfl sz3 (hF.ev rfl) rfl ec rfl (fun _ => rfl) (fun _ => by dsimp only [threadEK, Thread.encv, List.set] <;> rfl) (by intro _; rfl) fun w21 hS => ?_; dsimp only [List.set] at hS
  refine wl_nil ?_
  simp only [Exit.then, Exit.inBlock, ↓reduceIte]
  refine hK12 _ _ ?_
  refine ws fun K19 hK19 => ?_
  refine rb 1 3 hF tk hS rfl rfl rfl fun a hF => ?_
  refine wl_storew hF hS (i := 4) rfl (hF.ev rfl) (hF.ev rfl) sz29 rfl rfl fun w22 hS => ?_; dsimp only [List.set, Nat.reduceAdd] at hS
  refine ra 1 hF tk rfl fun a hF => ?_
  refine wl_nil (hK19 _ _ ?_)
  refine wp_ret ?_
  try simp only [Exit.then, Exit.inBlock, ↓reduceIte]
  have e : startS s (p : Int) o = (setT s p (startT (at0 s.threads (p : Int)) o s.generations), 1) := by
    unfold startS; rw [if_pos hgo, if_pos c56]; rfl
  have e9 : startT (at0 s.threads (p : Int)) o s.generations = { endT { (at0 s.threads (p : Int)) with op := o } 0 0 with pc := 80 } := by
    unfold startT; rw [if_neg c60, if_neg c65, if_pos c70]
  refine ret2c rfl ag29 hF hS (i := 4) rfl sz29 rfl rfl ⟨[z0, z1, (some ⟨gt, ot, none⟩, mt, ct)], ?_, ?_⟩
  · rw [e] <;> rfl
  · rw [e, e9]; exact hS.part_of [1, 2, 0] (by decide) rfl
 refine ws fun K20 hK20 => ?_
 refine ra 2 hF tk rfl fun a hF => ?_
 refine wl_nil (hK20 _ _ ?_)
 refine wc_fx (t := 75) hF rfl ?_ ?_ <;> clear hF <;> intro c75 hF <;> try simp only [zb] at c75
 ·
  refine wp_region_lit ?_
  refine ra 3 hF tk rfl fun a hF => ?_
  refine wl_estore (q := 0) (j := 0) (⟨_, ⟨_, _, _⟩, ⟨_, _⟩, _, _, _, _, _, _, _, _, _, _, _, _, _⟩ : Sl.Thread) hF hS hp rfl sz3 (hF.ev rfl) rfl ec rfl (fun _ => rfl) (fun _ => by dsimp only [threadEK, Thread.encv, List.set] <;> rfl) (by intro _; rfl) fun w23 hS => ?_; dsimp only [List.set] at hS
  refine wl_nil ?_
  simp only [Exit.then, Exit.inBlock, ↓reduceIte]
  refine hK12 _ _ ?_
  refine ws fun K21 hK21 => ?_
  refine rb 1 3 hF tk hS rfl rfl rfl fun a hF => ?_
  refine wl_storew hF hS (i := 4) rfl (hF.ev rfl) (hF.ev rfl) sz29 rfl rfl fun w24 hS => ?_; dsimp only [List.set, Nat.reduceAdd] at hS
  refine ra 1 hF tk rfl fun a hF => ?_
  refine wl_nil (hK21 _ _ ?_)
  refine wp_ret ?_
  try simp only [Exit.then, Exit.inBlock, ↓reduceIte]
  have e : startS s (p : Int) o = (setT s p (startT (at0 s.threads (p : Int)) o s.generations), 1) := by
    unfold startS; rw [if_pos hgo, if_pos c56]; rfl
  have e9 : startT (at0 s.threads (p : Int)) o s.generations = { endT { (at0 s.threads (p : Int)) with op := o } 0 0 with pc := 50 } := by
    unfold startT; rw [if_neg c60, if_neg c65, if_neg c70, if_pos c75]
  refine ret2c rfl ag29 hF hS (i := 4) rfl sz29 rfl rfl ⟨[z0, z1, (some ⟨gt, ot, none⟩, mt, ct)], ?_, ?_⟩
  · rw [e] <;> rfl
  · rw [e, e9]; exact hS.part_of [1, 2, 0] (by decide) rfl
 refine ws fun K22 hK22 => ?_
 refine ra 2 hF tk rfl fun a hF => ?_
 refine wl_nil (hK22 _ _ ?_)
 refine wc_fx (t := 80) hF rfl ?_ ?_ <;> clear hF <;> intro c80 hF <;> try simp only [zb] at c80
 ·
  refine ws fun K23 hK23 => ?_
  refine ra 3 hF tk rfl fun a hF => ?_
  refine wl_estore (q := 0) (j := 0) (⟨_, ⟨_, _, _⟩, ⟨_, _⟩, _, _, _, _, _, _, _, _, _, _, _, _, _⟩ : Sl.Thread) hF hS hp rfl sz3 (hF.ev rfl) rfl ec rfl (fun _ => rfl) (fun _ => by dsimp only [threadEK, Thread.encv, List.set] <;> rfl) (by intro _; rfl) fun w25 hS => ?_; dsimp only [List.set] at hS
  refine wl_nil (hK23 _ _ ?_)
  refine ws fun K24 hK24 => ?_
  refine ra 3 hF tk rfl fun a hF => ?_
  obtain ⟨ce88, ke88, ze88, he88⟩ := hS.eltK (q := 0) hp rfl; have kk88 := ke88; obtain ⟨u88_0, u88_1, u88_2, u88_3, u88_4, rfl, f88_0, f88_1, f88_2, f88_3, f88_4⟩ := ke88
  obtain ⟨Ae88, qe88, rfl, _, hme88⟩ := f88_1.sl; unfold maxLen at hme88
  refine wl hF rfl rfl rfl (r_load1 sc26 (hF.ev rfl) (he88 15 _ rfl)) fun a hF => ?_
  refine ra 1 hF tk rfl fun a hF => ?_
  replace hF : Fr _ ((89, vi ((at0 s.threads (p : Int)).free.length : Int)) :: _) a := hF
  refine ra 1 hF tk rfl fun a hF => ?_
  refine wl_nil (hK24 _ _ ?_)
  refine ws fun K25 hK25 => ?_
  refine ra 2 hF tk rfl fun a hF => ?_
  refine wl_nil (hK25 _ _ ?_)
  refine wc_fx (t := 91) hF rfl ?_ ?_ <;> clear hF <;> intro c91 hF <;> try simp only [zb] at c91
  ·
   obtain ⟨A0_, A1_, A2_, A3_, A4_, k0_, k1_, k2_, k3_, k4_, ⟨n0_, n1_, n2_, n3_, n4_⟩, ⟨q0_, q1_, q2_, q3_, q4_⟩, hS_⟩ := Sep.thr_lend (t := { (at0 s.threads (p : Int)) with op := o, result := ⟨0, 0⟩, pc := 30, node := 0, prev := 0, curr := 0, next := 0, seen := 0, stamp := 0, at_ := 0, found := [] }) hS hp; replace hS := hS_; clear hS_; unfold maxLen at n0_ n1_ n2_ n3_ n4_; try dsimp only at n0_ n1_ n2_ n3_ n4_ q0_ q1_ q2_ q3_ q4_
   dsimp only [Thread.encv] at hS
   have hla := hf.last c91; unfold lastF at hla
   refine ws fun K26 hK26 => ?_
   refine ra 3 hF tk rfl fun a hF => ?_
   refine wl hF rfl rfl rfl (r_load1 sc26 (hF.ev rfl) (hS.but1 (q := 5) (j := 15) rfl rfl)) fun a hF => ?_
   refine ra 2 hF tk rfl fun a hF => ?_
   have hw_ : IntKind.i64.wrap (((at0 s.threads (p : Int)).free.length : Int) - 1) = (((at0 s.threads (p : Int)).free.length - 1 : Nat) : Int) := by rw [w64_id (by omega) (by omega)]; omega
   rw [hw_] at hF; clear hw_
   obtain ⟨g98, o98, m98, q98, hv98, hm98, hl98, hc98⟩ := Rd.atF ((hS.own_rd (i := 1) rfl)) (a := a) (X := .tmp 97) (hF.ev rfl) (by omega) (by omega)
   refine wl hF rfl rfl rfl (r_index sl26 ((hF.ev rfl).trans hv98) (hF.ev rfl) (by omega) (by first | omega | (simp at hm98; omega))) fun a hF => ?_
   refine wl hF rfl rfl rfl (r_load1 sc3 (hF.ev rfl) (hc98 0 _ rfl)) fun a hF => ?_
   refine ra 1 hF tk rfl fun a hF => ?_
   refine wl_nil (hK26 _ _ ?_)
   refine ws fun K27 hK27 => ?_
   refine ra 4 hF tk rfl fun a hF => ?_
   refine wl hF rfl rfl rfl (r_load1 sc26 (hF.ev rfl) (hS.but1 (q := 5) (j := 15) rfl rfl)) fun a hF => ?_
   refine ra 2 hF tk rfl fun a hF => ?_
   have hw_ : IntKind.i64.wrap (((at0 s.threads (p : Int)).free.length : Int) - 1) = (((at0 s.threads (p : Int)).free.length - 1 : Nat) : Int) := by rw [w64_id (by omega) (by omega)]; omega
   rw [hw_] at hF; clear hw_
   refine wl hF rfl rfl rfl (r_cuthi (j := (at0 s.threads (p : Int)).free.length - 1) sl26 (hF.ev rfl) ((hF.ev rfl).trans (by first | rfl | (congr 1; omega))) (by omega)) fun a hF => ?_
   replace hS := hS.own_cuthi (q := 1) (j := (at0 s.threads (p : Int)).free.length - 1) rfl (by omega); dsimp only [List.set] at hS
   refine ra 2 hF tk rfl fun a hF => ?_
   refine wl_bstore (q := 5) (j := 15) hF hS rfl sz26 (hF.ev rfl) rfl (hF.ev rfl) rfl rfl fun w26 hS => ?_; dsimp only [List.set] at hS
   refine wl_nil (hK27 _ _ ?_)
   refine wp_region_lit ?_
   refine rb 6 11 hF tk hS rfl rfl rfl fun a hF => ?_
   obtain ⟨g116, o116, m116, q116, hv116, hm116, hl116, hc116⟩ := Rd.atF (r1) (a := a) (X := .tmp 115) (hF.ev rfl) (by omega) (by omega)
   refine wl hF rfl rfl rfl (r_index sl26 ((hF.ev rfl).trans hv116) (hF.ev rfl) (by omega) (by first | omega | (simp at hm116; omega))) fun a hF => ?_
   refine wl hF rfl rfl rfl (r_load1 sc3 (hF.ev rfl) (cellB hS.old (hc116 0 _ rfl))) fun a hF => ?_
   refine wl_call hF rfl rfl rfl (r_call2 en43 (hF.ev rfl) (hF.ev rfl)) (implMakeHandle_c) ?_; clear hF a; rintro v w27 a ⟨rfl, hB_⟩ hF; have hS := hS.ext hB_
   refine ra 2 hF tk rfl fun a hF => ?_
   refine wl_bstore (q := 5) (j := 7) hF hS rfl sz3 (hF.ev rfl) rfl (hF.ev rfl) rfl rfl fun w28 hS => ?_; dsimp only [List.set] at hS
   refine ra 2 hF tk rfl fun a hF => ?_
   refine wl_bstore (q := 5) (j := 0) hF hS rfl sz3 (hF.ev rfl) rfl ec rfl rfl fun w29 hS => ?_; dsimp only [List.set] at hS
   refine wl_nil ?_
   simp only [Exit.then, Exit.inBlock, ↓reduceIte]
   refine hK12 _ _ ?_
   refine ws fun K28 hK28 => ?_
   refine rb 1 8 hF tk hS rfl rfl rfl fun a hF => ?_
   refine wl_storew hF hS (i := 9) rfl (hF.ev rfl) (hF.ev rfl) sz29 rfl rfl fun w30 hS => ?_; dsimp only [List.set, Nat.reduceAdd] at hS
   refine ra 1 hF tk rfl fun a hF => ?_
   refine wl_nil (hK28 _ _ ?_)
   refine wp_ret ?_
   try simp only [Exit.then, Exit.inBlock, ↓reduceIte]
   replace hS := Sep.thr_back (t' := { endT { (at0 s.threads (p : Int)) with op := o } 0 0 with free := (at0 s.threads (p : Int)).free.take ((at0 s.threads (p : Int)).free.length - 1), node := makeHandle (lastF (at0 s.threads (p : Int))) (at0 s.generations (lastF (at0 s.threads (p : Int)))), pc := 32 }) (y0 := (_, _, _)) (y1 := (_, _, _)) (y2 := (_, _, _)) (y3 := (_, _, _)) (y4 := (_, _, _)) hS rfl
   have e : startS s (p : Int) o = (setT s p (startT (at0 s.threads (p : Int)) o s.generations), 1) := by
     unfold startS; rw [if_pos hgo, if_pos c56]; rfl
   have e9 : startT (at0 s.threads (p : Int)) o s.generations = { endT { (at0 s.threads (p : Int)) with op := o } 0 0 with free := (at0 s.threads (p : Int)).free.take ((at0 s.threads (p : Int)).free.length - 1), node := makeHandle (lastF (at0 s.threads (p : Int))) (at0 s.generations (lastF (at0 s.threads (p : Int)))), pc := 32 } := by
     unfold startT; rw [if_neg c60, if_neg c65, if_neg c70, if_neg c75, if_pos c91]
   refine ret2c rfl ag29 hF hS (i := 4) rfl sz29 rfl rfl ⟨[z0, z1, (some ⟨gt, ot, none⟩, mt, ct)], ?_, ?_⟩
   · rw [e] <;> rfl
   · rw [e, e9]; exact hS.part_of [1, 2, 0] (by decide) rfl
  refine wp_skip ?_
  simp only [Exit.then, Exit.inBlock, ↓reduceIte]
  refine hK12 _ _ ?_
  refine ws fun K29 hK29 => ?_
  refine rb 1 3 hF tk hS rfl rfl rfl fun a hF => ?_
  refine wl_storew hF hS (i := 4) rfl (hF.ev rfl) (hF.ev rfl) sz29 rfl rfl fun w31 hS => ?_; dsimp only [List.set, Nat.reduceAdd] at hS
  refine ra 1 hF tk rfl fun a hF => ?_
  refine wl_nil (hK29 _ _ ?_)
  refine wp_ret ?_
  try simp only [Exit.then, Exit.inBlock, ↓reduceIte]
  have e : startS s (p : Int) o = (setT s p (startT (at0 s.threads (p : Int)) o s.generations), 1) := by
    unfold startS; rw [if_pos hgo, if_pos c56]; rfl
  have e9 : startT (at0 s.threads (p : Int)) o s.generations = { endT { (at0 s.threads (p : Int)) with op := o } 0 0 with pc := 30 } := by
    unfold startT; rw [if_neg c60, if_neg c65, if_neg c70, if_neg c75, if_neg c91]
  refine ret2c rfl ag29 hF hS (i := 4) rfl sz29 rfl rfl ⟨[z0, z1, (some ⟨gt, ot, none⟩, mt, ct)], ?_, ?_⟩
  · rw [e] <;> rfl
  · rw [e, e9]; exact hS.part_of [1, 2, 0] (by decide) rfl
 exfalso; omega -- closed
end Go.Proofs.YtgofolgogfmhgaaGreat.Wk
namespace Go.Proofs.YtgofolgogfmhgaaGreat.Wk
open Go Go.RowKit Sl
theorem en7 : enterB Tryz.prog 7 = true := by kernel_rfl
theorem en8 : enterB Tryz.prog 8 = true := by kernel_rfl
theorem en9 : enterB Tryz.prog 9 = true := by kernel_rfl
theorem en12 : enterB Tryz.prog 12 = true := by kernel_rfl
theorem en15 : enterB Tryz.prog 15 = true := by kernel_rfl
theorem en16 : enterB Tryz.prog 16 = true := by kernel_rfl
end Go.Proofs.YtgofolgogfmhgaaGreat.Wk
namespace Go.Proofs.YtgofolgogfmhgaaGreat.Wk
open Go Go.RowKit Sl
set_option linter.unusedVariables false
set_option linter.unusedSimpArgs false
set_option maxRecDepth 20000
theorem free_eq {A B : Prop} [Decidable A] [Decidable B] : IntKind.i64.wrap (if A ∧ B then 1 else 0) = (if (decide A && decide B) = true then 1 else 0) := by
 by_cases a : A <;> by_cases b : B <;> simp [a, b, w64]
theorem start_only {s : Sl.State} {p : Int} {o : Sl.Op} (h0 : ¬ (startS s p o).2 = 0) (h2 : ¬ (startS s p o).2 = 2) : (startS s p o).2 = 1 := by
 rcases start_code (s := s) (p := p) (o := o) with h | h | h
 · exact (h0 h).elim
 · exact h
 · exact (h2 h).elim
theorem start_sz {s : Sl.State} {p : Int} {o : Sl.Op} (h : Drawn s) : ((startS s p o).1.size : Int) ≤ 1048576 := by
 have h1 := startS_size (s := s) (p := p) (o := o)
 have h2 := h.sz
 omega
theorem start_wf {s : Sl.State} {p : Int} {o : Sl.Op} (h : Drawn s) (ho : o.wf) : (startS s p o).1.wf := by
 unfold startS
 split
 · rename_i hc
   obtain ⟨⟨hs, h0, h1⟩, _⟩ := hc
   have hm : at0 s.threads p ∈ s.threads := at0_mem (by omega) (by omega)
   have hw := h.wf.2.2.2.1 _ hm
   have key : ∀ t : Sl.Thread, t.wf → (setT s p.toNat t).wf := fun t ht => ⟨h.wf.1, h.wf.2.1, h.wf.2.2.1, fun y hy => (List.mem_or_eq_of_mem_set hy).elim (h.wf.2.2.2.1 y) (fun e => e ▸ ht), h.wf.2.2.2.2⟩
   split
   · exact key _ (startT_wf hw ho)
   · exact key _ (wf_end (t := { at0 s.threads p with op := o }) ⟨hw.1, ho, hw.2.2⟩ refusal_int int64_zero)
 · exact h.wf
set_option maxHeartbeats 4000000 in
set_option maxRecDepth 20000 in
theorem law_FnStarts {W : World} {vb : Value} {bs : List Int} (hb : byteEK.Rd W vb bs) : Calls Tryz.prog 3 #[vb] W (Ret fun v w' => v = .bool true ∧ Below W.heap.size W w') := by
 refine calls_fr Tryz.func3 rfl Tryz.ntmps3 rfl ?_
 intro a hF
 have hS := Sep.refl W
 refine ws fun K1 hK1 => ?_
 refine ra 1 hF tk rfl fun a hF => ?_
 refine wl_nil (hK1 _ _ ?_)
 refine wp_seq_k fun K2 hK2 => ?_
 refine ws fun K3 hK3 => ?_
 refine ra 1 hF tk rfl fun a hF => ?_
 refine wl_call hF rfl rfl rfl (r_call1 en7 (hF.ev rfl)) (big_c (hS.rd hb)) ?_; clear hF a; rintro v w1 a ⟨rfl, hB_⟩ hF; have hS := hS.ext hB_
 refine wl_nil (hK3 _ _ ?_)
 refine wc_fx (t := 12) hF rfl ?_ ?_ <;> clear hF <;> intro c12 hF <;> try simp only [zb] at c12
 ·
  refine ws fun K4 hK4 => ?_
  refine ra 1 hF tk rfl fun a hF => ?_
  refine wl_nil (hK4 _ _ ?_)
  refine wp_ret ?_
  try simp only [Exit.then, Exit.inBlock, ↓reduceIte]
  refine ret1 rfl hF rfl ⟨congrArg Value.bool ?_, hS.old⟩
  rfl
 refine wp_skip ?_
 refine hK2 _ _ ?_
 refine ws fun K5 hK5 => ?_
 refine ra 1 hF tk rfl fun a hF => ?_
 refine wl_mk hF hS rfl rfl rfl (r_call1 en8 (hF.ev rfl)) (drawStartOp_c (hS.rd hb) (by omega)) ?_; clear hF a; rintro ⟨⟨x15, vs15, p15, o15⟩, hg15, hp15, ho15⟩ w2 a hS_ hF; replace hS := hS_; clear hS_; dsimp only [List.cons_append, List.nil_append] at hS
 replace hF : Fr _ ((15, .tuple #[.agg (stateEK.cells x15 vs15).toArray, vi p15, .agg o15.enc.toArray]) :: _) _ := hF
 replace hg15 : Drawn x15 := hg15
 replace hp15 : int64 p15 := hp15
 replace ho15 : o15.wf := ho15
 refine ra 4 hF tk rfl fun a hF => ?_
 refine wl_alloc hF hS rfl zr29 ?_; clear hF a; intro g1 w3 a hS_ hB_ hF; replace hS := hS_; clear hS_ hB_
 refine wl_alloc hF hS rfl zr31 ?_; clear hF a; intro g2 w4 a hS_ hB_ hF; replace hS := hS_; clear hS_ hB_
 refine wl_storew hF hS (i := 1) rfl (hF.ev rfl) (hF.ev rfl) sz29 rfl rfl fun w5 hS => ?_; dsimp only [List.set, Nat.reduceAdd] at hS
 refine ra 1 hF tk rfl fun a hF => ?_
 refine wl_storen (cs' := [_, _, _]) hF hS (i := 0) rfl (hF.ev rfl) (hF.ev rfl) sz31 ⟨rfl, rfl⟩ rfl rfl fun w6 hS => ?_; dsimp only [List.set] at hS
 refine wl_nil (hK5 _ _ ?_)
 refine ws fun K6 hK6 => ?_
 refine rb 2 1 hF tk hS rfl rfl rfl fun a hF => ?_
 refine rb 1 0 hF tk hS rfl rfl rfl fun a hF => ?_
 refine wl_mk hF hS rfl rfl rfl (r_call3 en9 (hF.ev rfl) (hF.ev rfl) (hF.ev rfl)) (implStartOp_c (hS.part_k (i := 2) rfl) hg15.wf (by have := hg15.sz; omega) hp15) ?_; clear hF a; rintro vs23 w7 a hS_ hF; replace hS := hS_; clear hS_; dsimp only [List.cons_append, List.nil_append] at hS
 refine ra 3 hF tk rfl fun a hF => ?_
 refine wl_alloc hF hS rfl zr29 ?_; clear hF a; intro g3 w8 a hS_ hB_ hF; replace hS := hS_; clear hS_ hB_
 refine wl_storew hF hS (i := 0) rfl (hF.ev rfl) (hF.ev rfl) sz29 rfl rfl fun w9 hS => ?_; dsimp only [List.set, Nat.reduceAdd] at hS
 refine ra 1 hF tk rfl fun a hF => ?_
 refine wl_nil (hK6 _ _ ?_)
 refine ws fun K7 hK7 => ?_
 refine rb 2 3 hF tk hS rfl rfl rfl fun a hF => ?_
 refine rb 1 2 hF tk hS rfl rfl rfl fun a hF => ?_
 refine wl_mk hF hS rfl rfl rfl (r_call3 en10 (hF.ev rfl) (hF.ev rfl) (hF.ev rfl)) (specStartOp_c (hS.part_k (i := 4) rfl) hg15.wf (by have := hg15.sz; omega) hp15) ?_; clear hF a; rintro vs30 w10 a hS_ hF; replace hS := hS_; clear hS_; dsimp only [List.cons_append, List.nil_append] at hS
 refine ra 3 hF tk rfl fun a hF => ?_
 refine wl_alloc hF hS rfl zr29 ?_; clear hF a; intro g4 w11 a hS_ hB_ hF; replace hS := hS_; clear hS_ hB_
 refine wl_storew hF hS (i := 0) rfl (hF.ev rfl) (hF.ev rfl) sz29 rfl rfl fun w12 hS => ?_; dsimp only [List.set, Nat.reduceAdd] at hS
 refine ra 1 hF tk rfl fun a hF => ?_
 refine wl_nil (hK7 _ _ ?_)
 refine ws fun K8 hK8 => ?_
 refine rb 2 5 hF tk hS rfl rfl rfl fun a hF => ?_
 refine rb 1 4 hF tk hS rfl rfl rfl fun a hF => ?_
 refine wl_call hF rfl rfl rfl (r_call3 en11 (hF.ev rfl) (hF.ev rfl) (hF.ev rfl)) (implRefusal_c (hS.part_k (i := 6) rfl) hg15.wf (by have := hg15.sz; omega) hp15) ?_; clear hF a; rintro v w13 a ⟨rfl, hB_⟩ hF; have hS := hS.ext hB_
 refine ra 1 hF tk rfl fun a hF => ?_
 refine wl_nil (hK8 _ _ ?_)
 refine wp_seq_k fun K9 hK9 => ?_
 refine ws fun K10 hK10 => ?_
 refine ra 4 hF tk rfl fun a hF => ?_
 apply wl_or (A := [_, _, _, _, _]) (pk := 45) hF hS (tc := 40) rfl
 ·
  intro hg40 a hF; try simp only [zb] at hg40
  refine rb 1 2 hF tk hS rfl rfl rfl fun a hF => ?_
  refine wl_take hF rfl rfl rfl rfl ?_
  refine rb 1 0 hF tk hS rfl rfl rfl fun a hF => ?_
  refine wl_take hF rfl rfl rfl rfl ?_
  refine wl_call hF rfl rfl rfl (r_call2 en12 (hF.ev rfl) (hF.ev rfl)) (implEqState_c (hS.part_k (i := 3) rfl) (hS.part_k (i := 1) rfl)) ?_; clear hF a; rintro v w14 a ⟨rfl, hB_⟩ hF; have hS := hS.ext hB_
  refine ra 2 hF tk rfl fun a hF => ?_
  exact wl_nil ⟨rfl, (Fr.pre (A := [_, _, _, _, _]) hF rfl).keep hF (t := 45) rfl, hS⟩
 ·
  intro hg40 a hF; try simp only [zb] at hg40
  refine ra 5 hF tk rfl fun a hF => ?_
  exact wl_nil ⟨rfl, (Fr.pre (A := [_, _, _, _, _]) hF rfl).keep hF (t := 45) rfl, hS⟩
 clear hF a hS; intro a w15 hF hS
 refine ra 1 hF tk rfl fun a hF => ?_
 apply wl_or (A := [_, _, _, _, _, _, _]) (pk := 53) hF hS (tc := 46) rfl
 ·
  intro hg46 a hF; try simp only [zb] at hg46
  refine rb 3 5 hF tk hS rfl rfl rfl fun a hF => ?_
  refine wl_take hF rfl rfl rfl rfl ?_
  refine rb 1 4 hF tk hS rfl rfl rfl fun a hF => ?_
  refine wl_take hF rfl rfl rfl rfl ?_
  refine wl_call hF rfl rfl rfl (r_call3 en13 (hF.ev rfl) (hF.ev rfl) (hF.ev rfl)) (specRefusal_c (hS.part_k (i := 6) rfl) hg15.wf (by have := hg15.sz; omega) hp15) ?_; clear hF a; rintro v w16 a ⟨rfl, hB_⟩ hF; have hS := hS.ext hB_
  refine ra 2 hF tk rfl fun a hF => ?_
  exact wl_nil ⟨rfl, (Fr.pre (A := [_, _, _, _, _, _, _]) hF rfl).keep hF (t := 53) rfl, hS⟩
 ·
  intro hg46 a hF; try simp only [zb] at hg46
  refine ra 7 hF tk rfl fun a hF => ?_
  exact wl_nil ⟨rfl, (Fr.pre (A := [_, _, _, _, _, _, _]) hF rfl).keep hF (t := 53) rfl, hS⟩
 clear hF a hS; intro a w17 hF hS
 refine wl_nil (hK10 _ _ ?_)
 refine wc_fx (t := 53) hF rfl ?_ ?_ <;> clear hF <;> intro c53 hF <;> try simp only [zb] at c53
 ·
  exfalso; simp at c53
 refine wp_skip ?_
 refine hK9 _ _ ?_
 refine wp_seq_k fun K11 hK11 => ?_
 refine ws fun K12 hK12 => ?_
 refine ra 1 hF tk rfl fun a hF => ?_
 refine wl_nil (hK12 _ _ ?_)
 refine wp_block ?_
 refine ws fun K13 hK13 => ?_
 refine ra 2 hF tk rfl fun a hF => ?_
 refine wl_nil (hK13 _ _ ?_)
 refine wc_fx (t := 55) hF rfl ?_ ?_ <;> clear hF <;> intro c55 hF <;> try simp only [zb] at c55
 ·
  refine ws fun K14 hK14 => ?_
  refine rb 1 2 hF tk hS rfl rfl rfl fun a hF => ?_
  refine rb 1 5 hF tk hS rfl rfl rfl fun a hF => ?_
  refine wl_call hF rfl rfl rfl (r_call2 en12 (hF.ev rfl) (hF.ev rfl)) (implEqState_c (hS.part_k (i := 3) rfl) (hS.part_k (i := 6) rfl)) ?_; clear hF a; rintro v w18 a ⟨rfl, hB_⟩ hF; have hS := hS.ext hB_
  refine ra 1 hF tk rfl fun a hF => ?_
  refine wl_nil (hK14 _ _ ?_)
  refine wp_ret ?_
  try simp only [Exit.then, Exit.inBlock, ↓reduceIte]
  refine ret1 rfl hF rfl ⟨congrArg Value.bool ?_, hS.old⟩
  exact decide_eq_true (start_none c55)
 refine ws fun K15 hK15 => ?_
 refine ra 2 hF tk rfl fun a hF => ?_
 refine wl_nil (hK15 _ _ ?_)
 refine wc_fx (t := 60) hF rfl ?_ ?_ <;> clear hF <;> intro c60 hF <;> try simp only [zb] at c60
 ·
  have hgd := start_guard (s := x15) (p := p15) (o := o15) (by omega)
  obtain ⟨⟨hgs, hg0, hg1⟩, hgo, hgp⟩ := hgd
  have hsc := start_cells (s := x15) (p := p15) (o := o15)
  have htl : (startS x15 p15 o15).1.threads.length = x15.threads.length := by first | (rw [(start_done c60).2]; unfold setT; simp; done) | (rw [(start_run (start_only c55 c60)).2]; unfold setT; simp; done)
  replace hS := hS.pull (p := 6) rfl; dsimp only [List.eraseIdx] at hS
  replace hS : Sep W (Own intEK (sv (vs15.getD 0 (none, 0, 0))) x15.cells :: Own intEK (sv (vs15.getD 1 (none, 0, 0))) x15.generations :: Own threadEK (sv (vs15.getD 2 (none, 0, 0))) x15.threads :: _) _ := hS.part_open
  try dsimp only [stateEK] at hS
  generalize vs15.getD 0 (none, 0, 0) = z0 at hS
  generalize vs15.getD 1 (none, 0, 0) = z1 at hS
  generalize vs15.getD 2 (none, 0, 0) = z2 at hS
  have hl0_z0 := hS.own_len (q := 0) rfl
  have hl1_z1 := hS.own_len (q := 1) rfl
  have hl2_z2 := hS.own_len (q := 2) rfl
  replace hS := hS.pull (p := 6) rfl; dsimp only [List.eraseIdx] at hS
  replace hS : Sep W (Own intEK (sv (vs23.getD 0 (none, 0, 0))) (startS x15 p15 o15).1.cells :: Own intEK (sv (vs23.getD 1 (none, 0, 0))) (startS x15 p15 o15).1.generations :: Own threadEK (sv (vs23.getD 2 (none, 0, 0))) (startS x15 p15 o15).1.threads :: _) _ := hS.part_open
  try dsimp only [stateEK] at hS
  generalize vs23.getD 0 (none, 0, 0) = y0 at hS
  generalize vs23.getD 1 (none, 0, 0) = y1 at hS
  generalize vs23.getD 2 (none, 0, 0) = y2 at hS
  have hl0_y0 := hS.own_len (q := 0) rfl
  have hl1_y1 := hS.own_len (q := 1) rfl
  have hl2_y2 := hS.own_len (q := 2) rfl
  refine ws fun K16 hK16 => ?_
  refine ra 3 hF tk rfl fun a hF => ?_
  apply wl_and (A := [_, _, _, _, _, _, _, _, _, _]) (pk := 74) hF hS (tc := 64) rfl
  ·
   intro hg64 a hF; try simp only [zb] at hg64
   refine rb 3 8 hF tk hS rfl rfl rfl fun a hF => ?_
   refine wl_take hF rfl rfl rfl rfl ?_
   obtain ⟨g68, o68, m68, q68, cs68, hv68, hm68, hl68, hk68, hz68, hc68⟩ := Rd.at ((hS.own_rd (i := 2) rfl)) (a := a) (X := .tmp 67) (hF.ev rfl) (by omega) (by omega)
   have hkk68 := hk68; obtain ⟨v68_0, v68_1, v68_2, v68_3, v68_4, rfl, r68_0, r68_1, r68_2, r68_3, r68_4⟩ := hk68
   refine wl hF rfl rfl rfl (r_index sl27 ((hF.ev rfl).trans hv68) (hF.ev rfl) (by omega) (by first | omega | (simp at hm68; omega))) fun a hF => ?_
   refine ra 2 hF tk rfl fun a hF => ?_
   refine wl_take hF rfl rfl rfl rfl ?_
   refine wl hF rfl rfl rfl (r_load1 sc3 (hF.ev rfl) (hc68 4 _ rfl)) fun a hF => ?_
   refine ra 3 hF tk rfl fun a hF => ?_
   exact wl_nil ⟨rfl, (Fr.pre (A := [_, _, _, _, _, _, _, _, _, _]) hF rfl).keep hF (t := 74) rfl, hS⟩
  ·
   intro hg64 a hF; try simp only [zb] at hg64
   refine ra 10 hF tk rfl fun a hF => ?_
   exact wl_nil ⟨rfl, (Fr.pre (A := [_, _, _, _, _, _, _, _, _, _]) hF rfl).keep hF (t := 74) rfl, hS⟩
  clear hF a hS; intro a w19 hF hS
  refine ra 1 hF tk rfl fun a hF => ?_
  apply wl_and (A := [_, _, _, _, _]) (pk := 80) hF hS (tc := 75) rfl
  ·
   intro hg75 a hF; try simp only [zb] at hg75
   refine rb 2 8 hF tk hS rfl rfl rfl fun a hF => ?_
   refine wl_take hF rfl rfl rfl rfl ?_
   refine wl_call hF rfl rfl rfl (r_call2 en14 (hF.ev rfl) (hF.ev rfl)) (implIsRunning_c (s := (startS x15 p15 o15).1) (stateK_of (hS.own_rd (i := 0) rfl) (hS.own_rd (i := 1) rfl) (hS.own_rd (i := 2) rfl)) (start_wf hg15 ho15) (start_sz hg15) hp15) ?_; clear hF a; rintro v w20 a ⟨rfl, hB_⟩ hF; have hS := hS.ext hB_
   refine ra 2 hF tk rfl fun a hF => ?_
   exact wl_nil ⟨rfl, (Fr.pre (A := [_, _, _, _, _]) hF rfl).keep hF (t := 80) rfl, hS⟩
  ·
   intro hg75 a hF; try simp only [zb] at hg75
   refine ra 5 hF tk rfl fun a hF => ?_
   exact wl_nil ⟨rfl, (Fr.pre (A := [_, _, _, _, _]) hF rfl).keep hF (t := 80) rfl, hS⟩
  clear hF a hS; intro a w21 hF hS
  refine ra 1 hF tk rfl fun a hF => ?_
  apply wl_and (A := [_, _, _, _, _, _]) (pk := 87) hF hS (tc := 81) rfl
  ·
   intro hg81 a hF; try simp only [zb] at hg81
   refine rb 3 8 hF tk hS rfl rfl rfl fun a hF => ?_
   refine wl_take hF rfl rfl rfl rfl ?_
   refine rb 1 10 hF tk hS rfl rfl rfl fun a hF => ?_
   refine wl_take hF rfl rfl rfl rfl ?_
   refine wl_call hF rfl rfl rfl (r_call2 en15 (hF.ev rfl) (hF.ev rfl)) (sameInts_c (hS.own_rd (i := 0) rfl) (hS.own_rd (i := 3) rfl)) ?_; clear hF a; rintro v w22 a ⟨rfl, hB_⟩ hF; have hS := hS.ext hB_
   refine ra 1 hF tk rfl fun a hF => ?_
   exact wl_nil ⟨rfl, (Fr.pre (A := [_, _, _, _, _, _]) hF rfl).keep hF (t := 87) rfl, hS⟩
  ·
   intro hg81 a hF; try simp only [zb] at hg81
   refine ra 6 hF tk rfl fun a hF => ?_
   exact wl_nil ⟨rfl, (Fr.pre (A := [_, _, _, _, _, _]) hF rfl).keep hF (t := 87) rfl, hS⟩
  clear hF a hS; intro a w23 hF hS
  refine ra 1 hF tk rfl fun a hF => ?_
  refine wl_nil (hK16 _ _ ?_)
  refine wp_ret ?_
  try simp only [Exit.then, Exit.inBlock, ↓reduceIte]
  refine ret1 rfl hF rfl ⟨congrArg Value.bool ?_, hS.old⟩
  rw [start_idle c60, decide_eq_true hsc.1, decide_eq_false (start_done c60).1, decide_eq_true (show (at0 (startS x15 p15 o15).1.threads p15).result.code = refusalOf x15 p15 o15 from by rw [(start_done c60).2, at0_setT hg0 hg1]; rfl)]
  rfl
 have hgd := start_guard (s := x15) (p := p15) (o := o15) (by omega)
 obtain ⟨⟨hgs, hg0, hg1⟩, hgo, hgp⟩ := hgd
 have hsc := start_cells (s := x15) (p := p15) (o := o15)
 have htl : (startS x15 p15 o15).1.threads.length = x15.threads.length := by first | (rw [(start_done c60).2]; unfold setT; simp; done) | (rw [(start_run (start_only c55 c60)).2]; unfold setT; simp; done)
 replace hS := hS.pull (p := 6) rfl; dsimp only [List.eraseIdx] at hS
 replace hS : Sep W (Own intEK (sv (vs15.getD 0 (none, 0, 0))) x15.cells :: Own intEK (sv (vs15.getD 1 (none, 0, 0))) x15.generations :: Own threadEK (sv (vs15.getD 2 (none, 0, 0))) x15.threads :: _) _ := hS.part_open
 try dsimp only [stateEK] at hS
 generalize vs15.getD 0 (none, 0, 0) = z0 at hS
 generalize vs15.getD 1 (none, 0, 0) = z1 at hS
 generalize vs15.getD 2 (none, 0, 0) = z2 at hS
 have hl0_z0 := hS.own_len (q := 0) rfl
 have hl1_z1 := hS.own_len (q := 1) rfl
 have hl2_z2 := hS.own_len (q := 2) rfl
 replace hS := hS.pull (p := 6) rfl; dsimp only [List.eraseIdx] at hS
 replace hS : Sep W (Own intEK (sv (vs23.getD 0 (none, 0, 0))) (startS x15 p15 o15).1.cells :: Own intEK (sv (vs23.getD 1 (none, 0, 0))) (startS x15 p15 o15).1.generations :: Own threadEK (sv (vs23.getD 2 (none, 0, 0))) (startS x15 p15 o15).1.threads :: _) _ := hS.part_open
 try dsimp only [stateEK] at hS
 generalize vs23.getD 0 (none, 0, 0) = y0 at hS
 generalize vs23.getD 1 (none, 0, 0) = y1 at hS
 generalize vs23.getD 2 (none, 0, 0) = y2 at hS
 have hl0_y0 := hS.own_len (q := 0) rfl
 have hl1_y1 := hS.own_len (q := 1) rfl
 have hl2_y2 := hS.own_len (q := 2) rfl
 refine wp_skip ?_
 simp only [Exit.then, Exit.inBlock, ↓reduceIte]
 refine hK11 _ _ ?_
 refine wp_seq_k fun K17 hK17 => ?_
 refine wp_region_calm (by kernel_rfl) (by kernel_rfl) ?_
 refine qa 3 hF tk rfl fun a hF => ?_
 apply wq_and (A := [_, _, _, _]) (pk := 94) hF (tc := 90) rfl
 ·
  intro hg90 a hF; try simp only [zb] at hg90
  refine qb 2 8 hF tk hS rfl rfl rfl fun a hF => ?_
  refine wq_take hF rfl rfl rfl rfl ?_
  refine wq_call hF rfl rfl rfl (fun w_ hB_ => r_call2 en14 (hF.ev rfl) (hF.ev rfl)) (fun w_ hB_ => implIsRunning_c (s := (startS x15 p15 o15).1) (stateK_of ((hS.ext hB_).own_rd (i := 0) rfl) ((hS.ext hB_).own_rd (i := 1) rfl) ((hS.ext hB_).own_rd (i := 2) rfl)) (start_wf hg15 ho15) (start_sz hg15) hp15) fun a hF => ?_
  refine qa 1 hF tk rfl fun a hF => ?_
  exact wpQuiet_nil ((Fr.pre (A := [_, _, _, _]) hF rfl).keep hF (t := 94) rfl)
 ·
  intro hg90 a hF; try simp only [zb] at hg90
  refine qa 4 hF tk rfl fun a hF => ?_
  exact wpQuiet_nil ((Fr.pre (A := [_, _, _, _]) hF rfl).keep hF (t := 94) rfl)
 clear hF a; intro a hF
 refine qa 1 hF tk rfl fun a hF => ?_
 apply wq_and (A := [_, _, _, _, _, _]) (pk := 101) hF (tc := 95) rfl
 ·
  intro hg95 a hF; try simp only [zb] at hg95
  refine qb 3 8 hF tk hS rfl rfl rfl fun a hF => ?_
  refine wq_take hF rfl rfl rfl rfl ?_
  refine qb 3 10 hF tk hS rfl rfl rfl fun a hF => ?_
  exact wpQuiet_nil ((Fr.pre (A := [_, _, _, _, _, _]) hF rfl).keep hF (t := 101) rfl)
 ·
  intro hg95 a hF; try simp only [zb] at hg95
  refine qa 6 hF tk rfl fun a hF => ?_
  exact wpQuiet_nil ((Fr.pre (A := [_, _, _, _, _, _]) hF rfl).keep hF (t := 101) rfl)
 clear hF a; intro a hF
 refine qa 1 hF tk rfl fun a hF => ?_
 apply wq_and (A := [_, _, _, _, _, _]) (pk := 108) hF (tc := 102) rfl
 ·
  intro hg102 a hF; try simp only [zb] at hg102
  refine qb 3 8 hF tk hS rfl rfl rfl fun a hF => ?_
  refine wq_take hF rfl rfl rfl rfl ?_
  refine qb 1 10 hF tk hS rfl rfl rfl fun a hF => ?_
  refine wq_take hF rfl rfl rfl rfl ?_
  refine wq_call hF rfl rfl rfl (fun w_ hB_ => r_call2 en15 (hF.ev rfl) (hF.ev rfl)) (fun w_ hB_ => sameInts_c ((hS.ext hB_).own_rd (i := 0) rfl) ((hS.ext hB_).own_rd (i := 3) rfl)) fun a hF => ?_
  refine qa 1 hF tk rfl fun a hF => ?_
  exact wpQuiet_nil ((Fr.pre (A := [_, _, _, _, _, _]) hF rfl).keep hF (t := 108) rfl)
 ·
  intro hg102 a hF; try simp only [zb] at hg102
  refine qa 6 hF tk rfl fun a hF => ?_
  exact wpQuiet_nil ((Fr.pre (A := [_, _, _, _, _, _]) hF rfl).keep hF (t := 108) rfl)
 clear hF a; intro a hF
 refine qa 1 hF tk rfl fun a hF => ?_
 apply wq_and (A := [_, _, _, _, _, _, _, _, _, _, _, _, _, _, _, _, _, _, _, _, _, _, _, _, _, _, _, _, _, _, _]) (pk := 140) hF (tc := 109) rfl
 ·
  intro hg109 a hF; try simp only [zb] at hg109
  refine qb 3 10 hF tk hS rfl rfl rfl fun a hF => ?_
  refine wq_take hF rfl rfl rfl rfl ?_
  obtain ⟨g113, o113, m113, q113, cs113, hv113, hm113, hl113, hk113, hz113, hc113⟩ := Rd.at ((hS.own_rd (i := 5) rfl)) (a := a) (X := .tmp 112) (hF.ev rfl) (by omega) (by omega)
  have hkk113 := hk113; obtain ⟨v113_0, v113_1, v113_2, v113_3, v113_4, rfl, r113_0, r113_1, r113_2, r113_3, r113_4⟩ := hk113
  refine wq hF rfl rfl rfl (fun w_ hB_ => r_index sl27 ((hF.ev rfl).trans hv113) (hF.ev rfl) (by omega) (by first | omega | (simp at hm113; omega))) fun a hF => ?_
  obtain ⟨Af113, qf113, rfl, hqf113, hnf113⟩ := r113_1.sl
  refine qa 1 hF tk rfl fun a hF => ?_
  refine wq_take hF rfl rfl rfl rfl ?_
  refine wq hF rfl rfl rfl (fun w_ hB_ => r_load1 sc26 (hF.ev rfl) (cellB hB_ (hc113 15 _ rfl))) fun a hF => ?_
  refine qb 4 8 hF tk hS rfl rfl rfl fun a hF => ?_
  refine wq_take hF rfl rfl rfl rfl ?_
  obtain ⟨g120, o120, m120, q120, cs120, hv120, hm120, hl120, hk120, hz120, hc120⟩ := Rd.at ((hS.own_rd (i := 2) rfl)) (a := a) (X := .tmp 119) (hF.ev rfl) (by omega) (by omega)
  have hkk120 := hk120; obtain ⟨v120_0, v120_1, v120_2, v120_3, v120_4, rfl, r120_0, r120_1, r120_2, r120_3, r120_4⟩ := hk120
  refine wq hF rfl rfl rfl (fun w_ hB_ => r_index sl27 ((hF.ev rfl).trans hv120) (hF.ev rfl) (by omega) (by first | omega | (simp at hm120; omega))) fun a hF => ?_
  obtain ⟨Af120, qf120, rfl, hqf120, hnf120⟩ := r120_1.sl
  refine qa 1 hF tk rfl fun a hF => ?_
  refine wq_take hF rfl rfl rfl rfl ?_
  refine wq hF rfl rfl rfl (fun w_ hB_ => r_load1 sc26 (hF.ev rfl) (cellB hB_ (hc120 15 _ rfl))) fun a hF => ?_
  refine qb 6 9 hF tk hS rfl rfl rfl fun a hF => ?_
  apply wq_and (A := [_, _, _, _, _, _, _, _, _]) (pk := 137) hF (tc := 128) rfl
  ·
   intro hg128 a hF; try simp only [zb] at hg128
   refine qb 3 10 hF tk hS rfl rfl rfl fun a hF => ?_
   refine wq_take hF rfl rfl rfl rfl ?_
   obtain ⟨g132, o132, m132, q132, cs132, hv132, hm132, hl132, hk132, hz132, hc132⟩ := Rd.at ((hS.own_rd (i := 5) rfl)) (a := a) (X := .tmp 131) (hF.ev rfl) (by omega) (by omega)
   have hkk132 := hk132; obtain ⟨v132_0, v132_1, v132_2, v132_3, v132_4, rfl, r132_0, r132_1, r132_2, r132_3, r132_4⟩ := hk132
   refine wq hF rfl rfl rfl (fun w_ hB_ => r_index sl27 ((hF.ev rfl).trans hv132) (hF.ev rfl) (by omega) (by first | omega | (simp at hm132; omega))) fun a hF => ?_
   obtain ⟨Af132, qf132, rfl, hqf132, hnf132⟩ := r132_1.sl
   refine qa 1 hF tk rfl fun a hF => ?_
   refine wq_take hF rfl rfl rfl rfl ?_
   refine wq hF rfl rfl rfl (fun w_ hB_ => r_load1 sc26 (hF.ev rfl) (cellB hB_ (hc132 15 _ rfl))) fun a hF => ?_
   refine qa 3 hF tk rfl fun a hF => ?_
   exact wpQuiet_nil ((Fr.pre (A := [_, _, _, _, _, _, _, _, _]) hF rfl).keep hF (t := 137) rfl)
  ·
   intro hg128 a hF; try simp only [zb] at hg128
   refine qa 9 hF tk rfl fun a hF => ?_
   exact wpQuiet_nil ((Fr.pre (A := [_, _, _, _, _, _, _, _, _]) hF rfl).keep hF (t := 137) rfl)
  intro a hF
  refine wq_take hF rfl rfl rfl rfl ?_
  refine wq_call hF rfl rfl rfl (fun w_ hB_ => r_call1 en16 (hF.ev rfl)) (fun w_ hB_ => btoi_c) fun a hF => ?_
  refine qa 2 hF tk rfl fun a hF => ?_
  exact wpQuiet_nil ((Fr.pre (A := [_, _, _, _, _, _, _, _, _, _, _, _, _, _, _, _, _, _, _, _, _, _, _]) hF rfl).keep hF (t := 140) rfl)
 ·
  intro hg109 a hF; try simp only [zb] at hg109
  refine qa 31 hF tk rfl fun a hF => ?_
  exact wpQuiet_nil ((Fr.pre (A := [_, _, _, _, _, _, _, _, _, _, _, _, _, _, _, _, _, _, _, _, _, _, _, _, _, _, _, _, _, _, _]) hF rfl).keep hF (t := 140) rfl)
 clear hF a; intro a hF
 refine qa 1 hF tk rfl fun a hF => ?_
 refine wpQuiet_nil ?_; intro w29 hB_; have hS := hS.ext hB_
 refine hK17 _ _ ?_
 refine wp_ret ?_
 try simp only [Exit.then, Exit.inBlock, ↓reduceIte]
 refine ret1 rfl hF rfl ⟨congrArg Value.bool ?_, hS.old⟩
 have h1 := start_only c55 c60
 rw [start_running hg15.wf h1, decide_eq_true (start_run h1).1, decide_eq_true hsc.2, decide_eq_true hsc.1, start_free h1, free_eq, decide_eq_true rfl]
 rfl
end Go.Proofs.YtgofolgogfmhgaaGreat.Wk
namespace Go.Proofs.YtgofolgogfmhgaaGreat.Sl
open Go
section
variable {P : Program} {h s : List Char} {X : List (List Char)}
/-- a row of signs, by their numbers -/
def ch (l : List Nat) : List Char := l.map Char.ofNat
/-- the blank -/
abbrev sp : Char := Char.ofNat 32
theorem words_sp : ∀ (w r : List Char), Sl.sp ∉ w → wordsSigns (w ++ Sl.sp :: r) = w :: wordsSigns r
  | [], r, _ => rfl
  | c :: w, r, h => by
    have hc : c ≠ Sl.sp := fun e => h (e ▸ List.mem_cons_self)
    have ih := words_sp w r (fun e => h (List.mem_cons_of_mem _ e))
    rw [List.cons_append, wordsSigns.eq_3 _ _ (fun e => hc e), ih]
theorem strip_cut : stripLifts liftWords ("cut".toList :: X) = ([], "cut".toList :: X) := by kernel_rfl
theorem made_of (e : behindMainWord (wordsSigns P.initOrder.toList) = "cut".toList :: X) : P.make = some .cut := by
 unfold Program.make; rw [e]; rfl
theorem final_of (e : behindMainWord (wordsSigns P.initOrder.toList) = "cut".toList :: X) : P.liftsFinal = false := by
 unfold Program.liftsFinal Program.headLifts; rw [e]; dsimp only; rw [strip_cut]; rfl
theorem enter_of (e : behindMainWord (wordsSigns P.initOrder.toList) = "cut".toList :: X) (h1 : P.laysLater = false) (h2 : P.bearsReflect = false) (h3 : P.doorFits [] = true) : P.mayEnter = true := by
 unfold Program.mayEnter; rw [e]; dsimp only; rw [strip_cut, h1, h2, h3]; rfl
end
end Go.Proofs.YtgofolgogfmhgaaGreat.Sl
namespace Go.Proofs.YtgofolgogfmhgaaGreat
open Go Go.RowKit Sl Wk
set_option linter.unusedVariables false
set_option linter.unusedSimpArgs false
set_option maxRecDepth 20000
theorem op5 : Opens Tryz.prog 5 1 (fun _ n cs => cs = [.int .u8 n]) (fun _ => True) := opens_byte (by kernel_rfl) (by kernel_rfl)
theorem op22 : Opens Tryz.prog 22 1 (fun W xs cs => ∃ v, cs = [v] ∧ byteEK.Rd W v xs) (fun xs => ∀ x ∈ xs, (fun _ => True) x) := opens_slice op5 (by decide) (by kernel_rfl) (by kernel_rfl)
namespace fnStarts
open Go.ChangeShapes Go.WideShapes Go.ChangeAt Go.RowKit
theorem laidOut : laidOutB Tryz.prog = true := by kernel_rfl
theorem own : ownKnob Tryz.prog.godebug = none := by kernel_rfl
set_option maxRecDepth 100000 in
theorem lifted (os : Os) (started : os.Started) (H : Type) (enc : TypeId × Value → H) :
    ReturnsInHanded {} Tryz.checked os 3 .any (Rows.fnStartsSpec.pre6 enc Tryz.prog Tryz.f3 Rows.fnStartsRow.domain false) (Rows.fnStartsSpec.post enc Tryz.prog Tryz.f3 false true false false) := by
  refine returnsInHanded_of_change_sized (C := Tryz.checked) own started (by kernel_rfl) Tryz.func3
    (ChangeSpec.witness6 (enc := enc) (C := Tryz.checked) false ⟨#[], #[.slice none 0 0], []⟩ 8 (by kernel_rfl) (by kernel_rfl) (by kernel_rfl) (by kernel_rfl)) ?_
  intro W base args ds gs before hval0 hW hcnd hsz0 _
  have hval : ∀ (j : Nat) t v, Tryz.f3.params[j]? = some t → args[j]? = some v → Value.okWide Tryz.prog W .any base t v := hval0
  have hW' := hW
  obtain ⟨p, q, hA0, hV, rfl, hfz, hnd⟩ := hW
  have hA : DataW.TrodAll enc Tryz.prog W 0 (fun _ => true) true Tryz.f3.params.toList args.toList ds p := hA0
  rw [Tryz.params3] at hA hval
  obtain ⟨v0, vs0, d0, ds0, p0, q0, hargs, rfl, rfl, h0, r0⟩ := trodAll_cons hA
  obtain ⟨rfl, rfl, rfl⟩ := trodAll_nil r0
  obtain rfl : args = #[v0] := by cases args; simp_all
  obtain ⟨rfl, rfl⟩ := trodVars_none hV
  have kk0 := h0
  have lt0 : ∀ x ∈ p0, x.block < W.heap.size := by obtain ⟨m, hm⟩ := kk0; exact DataW.trod_lt m _ _ _ hm
  obtain ⟨sa0, sl0, sc0, rfl⟩ := okWide_slice (by kernel_rfl : Tryz.prog.underlying 22 = some (.slice 5)) (hval 0 22 v0 rfl rfl)
  obtain ⟨m0, hm0⟩ := h0
  obtain ⟨x0, ⟨u0_0, e0, hr0⟩, _, ok0⟩ := (op22).2 _ _ _ _ _ _ _ hm0; clear hm0
  obtain rfl : Value.slice sa0 sl0 sc0 = u0_0 := by simpa [Value.cells] using e0
  clear hA0 hval0
  refine (law_FnStarts hr0).mono ?_
  rintro e W' ⟨v, rfl, rfl, bel⟩
  exact ⟨_, rfl, _, _, _, [], _, [], hW', trodAll_mk1 (shut_bool (by kernel_rfl : Tryz.prog.underlying 4 = some .bool) _), (trodAll_cons_mk (Below.trod laidOut (by kernel_rfl) (of_decide_eq_true (by kernel_rfl)) kk0 bel lt0) trodAll_mk0), rfl, bel.frame _, fun h => by cases h⟩
def restSigns : List Char := Sl.ch [97, 116, 32, 108, 111, 111, 112, 46, 101, 120, 97, 109, 112, 108, 101, 47, 103, 48, 49, 54, 50, 56, 47, 108, 97, 119, 115, 46, 70, 110, 83, 116, 97, 114, 116, 115, 32, 108, 111, 111, 112, 46, 101, 120, 97, 109, 112, 108, 101, 47, 103, 48, 49, 54, 50, 56, 47, 108, 97, 119, 115, 46, 70, 110, 76, 105, 109, 98, 111, 32, 108, 111, 111, 112, 46, 101, 120, 97, 109, 112, 108, 101, 47, 103, 48, 49, 54, 50, 56, 47, 108, 97, 119, 115, 46, 70, 110, 75, 105, 110, 100, 115, 79, 102, 83, 116, 101, 112, 115, 32, 108, 111, 111, 112, 46, 101, 120, 97, 109, 112, 108, 101, 47, 103, 48, 49, 54, 50, 56, 47, 108, 97, 119, 115, 46, 70, 110, 83, 116, 101, 112, 115]
theorem order : Tryz.pinned.checked.prog.initOrder = String.ofList (Sl.ch [104, 97, 114, 110, 101, 115, 115] ++ Sl.sp :: (Sl.ch [98, 55, 52, 56, 99, 50, 53, 100, 54, 101, 52, 101, 101, 52, 50, 98, 49, 48, 51, 55, 51, 97, 56, 57, 98, 102, 98, 99, 56, 49, 102, 49, 52, 56, 48, 101, 54, 54, 99, 100, 55, 48, 50, 53, 97, 52, 50, 57, 50, 52, 51, 49, 50, 100, 51, 98, 57, 102, 98, 57, 100, 56, 50, 98] ++ Sl.sp :: (Sl.ch [99, 117, 116] ++ Sl.sp :: restSigns))) := by kernel_rfl
theorem behind (X : List (List Char)) : behindMainWord (Sl.ch [104, 97, 114, 110, 101, 115, 115] :: Sl.ch [98, 55, 52, 56, 99, 50, 53, 100, 54, 101, 52, 101, 101, 52, 50, 98, 49, 48, 51, 55, 51, 97, 56, 57, 98, 102, 98, 99, 56, 49, 102, 49, 52, 56, 48, 101, 54, 54, 99, 100, 55, 48, 50, 53, 97, 52, 50, 57, 50, 52, 51, 49, 50, 100, 51, 98, 57, 102, 98, 57, 100, 56, 50, 98] :: Sl.ch [99, 117, 116] :: X) = "cut".toList :: X := by kernel_rfl
theorem heads : behindMainWord (wordsSigns Tryz.pinned.checked.prog.initOrder.toList) = "cut".toList :: wordsSigns restSigns := by
 rw [order, String.toList_ofList, Sl.words_sp _ _ (by decide), Sl.words_sp _ _ (by decide), Sl.words_sp _ _ (by decide)]; exact behind _
theorem facts : joinedFacts Tryz.pinned.checked.prog 3 Tryz.f3 Rows.fnStartsSpec Rows.fnStartsRow = true := by
 unfold joinedFacts; rw [Sl.enter_of heads (by kernel_rfl) (by kernel_rfl) (by kernel_rfl), Sl.final_of heads, Sl.made_of heads]; kernel_rfl
theorem over : Rows.fnStartsRow.holds Tryz.pinned (OpenSpec.ofChange Rows.fnStartsSpec) :=
  OpenClaim.holds_of_wide 3 Tryz.f3 rfl rfl rfl rfl rfl rfl rfl ⟨rfl, rfl, rfl, rfl, rfl⟩ rfl rfl rfl rfl rfl (by kernel_rfl) Tryz.func3 facts
    (of_decide_eq_true (by kernel_rfl)) (by unfold Func.isWrapper; first | (rw [if_pos (by decide +kernel)]; kernel_rfl) | (rw [if_neg (by decide +kernel)]; exact ⟨rfl, rfl⟩))
    (fun os started H enc _ => lifted os started H enc)
theorem proved : Rows.FnStartsSaid := over
end fnStarts
/-- The row, under a short name. -/
theorem fnStarts_holds : Rows.FnStartsSaid := fnStarts.proved
end Go.Proofs.YtgofolgogfmhgaaGreat
