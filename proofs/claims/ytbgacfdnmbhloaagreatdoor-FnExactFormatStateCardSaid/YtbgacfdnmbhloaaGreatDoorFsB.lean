/- Lemmas for the row of RwFs. -/
import Derived.Test.YtbgacfdnmbhloaaGreatDoorFsA
set_option maxHeartbeats 4000000
set_option maxRecDepth 20000
namespace Go.Proofs.YtbgacfdnmbhloaaGreatDoor.Wk
open Go Go.RowKit Sl
set_option linter.unusedVariables false
set_option linter.unusedSimpArgs false
set_option maxRecDepth 20000
/-- handles, as the reference reads them -/
def isHandle (h : Int) : Bool := decide (1 < h) && decide (0 < h / 2 % 64) && decide (h / 2 / 64 ≤ 9999)
def indexOf (h : Int) : Int := if isHandle h = true then h / 2 % 64 - 1 else -1
def genOf (h : Int) : Int := if isHandle h = true then h / 2 / 64 else -1
def isMarked (h : Int) : Bool := decide (h = 1) || (isHandle h && decide (h % 2 = 1))
def unmarked (h : Int) : Int := if isMarked h = true then h - 1 else h
def isNode (c : Config) (h : Int) : Bool := isHandle h && decide (indexOf h < c.capacity)
def isLink (c : Config) (h : Int) : Bool := decide (h = 0) || (isNode c h && !isMarked h)
def zeroOk (c : Config) (h : Int) : Bool := decide (unmarked h = 0) || isNode c (unmarked h)
section
variable {h : Int}
theorem isHandle_iff : isHandle h = true ↔ 1 < h ∧ 0 < h / 2 % 64 ∧ h / 2 / 64 ≤ 9999 := by
 simp only [isHandle, Bool.and_eq_true, decide_eq_true_eq, and_assoc]
theorem half_pos (h0 : 0 ≤ h) (h1 : int64 h) : IntKind.i64.wrap (h.tdiv 2) = h / 2 := by
 unfold int64 at h1
 rw [Int.tdiv_eq_ediv_of_nonneg h0, w64_id (by omega) (by omega)]
theorem q64_pos (h0 : 0 ≤ h) (h1 : int64 h) : IntKind.i64.wrap (h.tdiv 64) = h / 64 := by
 unfold int64 at h1
 rw [Int.tdiv_eq_ediv_of_nonneg h0, w64_id (by omega) (by omega)]
theorem rem_pos (m : Int) (h0 : 0 ≤ h) : h.tmod m = h % m := Int.tmod_eq_emod_of_nonneg h0
theorem int64_half (h1 : int64 h) (h0 : 0 ≤ h) : int64 (h / 2) := by unfold int64 at *; omega
theorem isMarked_unmarked : isMarked (unmarked h) = false := by
 unfold unmarked
 split
 · rename_i hm
   unfold isMarked at hm ⊢
   simp only [Bool.or_eq_true, Bool.and_eq_true, decide_eq_true_eq, isHandle_iff, Bool.or_eq_false_iff, decide_eq_false_iff_not, Bool.and_eq_false_iff] at hm ⊢
   omega
 · rename_i hm; simpa using hm
theorem isLink_unmarked {c : Config} : isLink c (unmarked h) = zeroOk c h := by simp [isLink, zeroOk, isMarked_unmarked]
theorem isLink_zero {c : Config} : isLink c h = (zeroOk c h && !isMarked h) := by
 unfold zeroOk unmarked isLink
 split
 · rename_i hm
   have : ¬ h = 0 := by
     intro e; subst e; revert hm; decide
   simp [hm, this]
 · rename_i hm
   have hm' : isMarked h = false := by simpa using hm
   simp [hm']
theorem unmark_wrap (hm : isMarked h = true) (h1 : int64 h) : IntKind.i64.wrap (h - 1) = h - 1 := by
 unfold isMarked at hm
 simp only [Bool.or_eq_true, Bool.and_eq_true, decide_eq_true_eq, isHandle_iff] at hm
 unfold int64 at h1
 exact w64_id (by omega) (by omega)
theorem int64_unmarked (h1 : int64 h) : int64 (unmarked h) := by
 unfold unmarked
 split
 · rename_i hm
   unfold isMarked at hm
   simp only [Bool.or_eq_true, Bool.and_eq_true, decide_eq_true_eq, isHandle_iff] at hm
   unfold int64 at *; omega
 · exact h1
end
theorem specIsHandle_c {W : World} {h : Int} (h1 : int64 h) : Calls Tryz.prog 64 #[vi h] W (Ret fun v w' => v = .bool (isHandle h) ∧ Below W.heap.size W w') := by
 refine cfr Tryz.func64 Tryz.ntmps64 fun a hF => ?_
 have hS := Sep.refl W
 refine rg hF rfl fun a hF => ws fun K2 hK2 => ga 1 hF rfl fun a hF => wl hF rfl rfl rfl (r_quo (by first | decide | omega) (hF.ev rfl) ec) fun a hF => ge hK2 hF rfl fun a hF => ws fun K3 hK3 => ga 3 hF rfl fun a hF => ?_
 apply wa 4 8 12 hF hS
 ·
  intro hg8 a hF
  refine ga 1 hF rfl fun a hF => wl_take hF rfl rfl rfl rfl <| wl hF rfl rfl rfl (r_rem (by first | decide | omega) (hF.ev rfl) ec) fun a hF => ?_
  exact je 4 hF hS rfl rfl rfl rfl
 intro a w1 hF hS
 refine ga 1 hF rfl fun a hF => ?_
 apply wa 4 13 17 hF hS
 ·
  intro hg13 a hF
  refine ga 1 hF rfl fun a hF => wl_take hF rfl rfl rfl rfl <| wl hF rfl rfl rfl (r_quo (by first | decide | omega) (hF.ev rfl) ec) fun a hF => ?_
  exact je 4 hF hS rfl rfl rfl rfl
 intro a w2 hF hS
 refine ge hK3 hF rfl fun a hF => ?_
 refine xr ?_
 refine ret1 rfl hF rfl ⟨congrArg Value.bool ?_, hS.old⟩
 by_cases h0 : 0 ≤ h
 · rw [half_pos h0 h1, rem_pos _ (by omega), q64_pos (by omega) (int64_half h1 h0)]; rfl
 · unfold isHandle; rw [decide_eq_false (show ¬ 1 < h by omega)]; rfl
theorem specIndexOf_c {W : World} {h : Int} (h1 : int64 h) : Calls Tryz.prog 59 #[vi h] W (Ret fun v w' => v = vi (indexOf h) ∧ Below W.heap.size W w') := by
 refine cfr Tryz.func59 Tryz.ntmps59 fun a hF => ?_
 have hS := Sep.refl W
 refine rg hF rfl fun a hF => wp_seq_k fun K2 hK2 => ws fun K3 hK3 => ga 1 hF rfl fun a hF => ckr hF hS rfl (specIsHandle_c h1) fun w1 a hS hF => ge hK3 hF rfl fun a hF => cx 5 hF rfl (fun c5 hF => ?_) fun c5 hF => ?_
 ·
  refine rg hF rfl fun a hF => ?_
  refine xr ?_
  refine ret1 rfl hF rfl ⟨?_, hS.old⟩
  unfold indexOf; rw [c5]
  first | rfl | (have hi := isHandle_iff.1 c5; have h1u := h1; unfold int64 at h1u; rw [if_pos rfl, half_pos (by omega) h1, rem_pos _ (by omega), w64_id (by omega) (by omega)])
 refine wp_skip <| hK2 _ _ <| ws fun K5 hK5 => ga 1 hF rfl fun a hF => wl hF rfl rfl rfl (r_quo (by first | decide | omega) (hF.ev rfl) ec) fun a hF => wl hF rfl rfl rfl (r_rem (by first | decide | omega) (hF.ev rfl) ec) fun a hF => ge hK5 hF rfl fun a hF => ?_
 refine xr ?_
 refine ret1 rfl hF rfl ⟨?_, hS.old⟩
 unfold indexOf; rw [c5]
 first | rfl | (have hi := isHandle_iff.1 c5; have h1u := h1; unfold int64 at h1u; rw [if_pos rfl, half_pos (by omega) h1, rem_pos _ (by omega), w64_id (by omega) (by omega)])
theorem specIsMarked_c {W : World} {h : Int} (h1 : int64 h) : Calls Tryz.prog 34 #[vi h] W (Ret fun v w' => v = .bool (isMarked h) ∧ Below W.heap.size W w') := by
 refine cfr Tryz.func34 Tryz.ntmps34 fun a hF => ?_
 have hS := Sep.refl W
 refine rg hF rfl fun a hF => ws fun K2 hK2 => ga 3 hF rfl fun a hF => ?_
 apply wo 8 5 13 hF hS
 ·
  intro hg5 a hF
  refine ga 1 hF rfl fun a hF => ckr hF hS rfl (specIsHandle_c h1) fun w1 a hS hF => ga 1 hF rfl fun a hF => ?_
  apply wa 4 8 12 hF hS
  ·
   intro hg8 a hF
   refine ga 1 hF rfl fun a hF => wl_take hF rfl rfl rfl rfl <| wl hF rfl rfl rfl (r_rem (by first | decide | omega) (hF.ev rfl) ec) fun a hF => ?_
   exact je 4 hF hS rfl rfl rfl rfl
  intro a w2 hF hS
  exact je 5 hF hS rfl rfl rfl rfl
 intro a w3 hF hS
 refine ge hK2 hF rfl fun a hF => ?_
 refine xr ?_
 refine ret1 rfl hF rfl ⟨congrArg Value.bool ?_, hS.old⟩
 by_cases h0 : 0 ≤ h
 · rw [rem_pos _ h0]; rfl
 · have e : isHandle h = false := by rw [Bool.eq_false_iff]; intro e; rw [isHandle_iff] at e; omega
   unfold isMarked; rw [e, Bool.false_and, Bool.false_and]
theorem specUnmarked_c {W : World} {h : Int} (h1 : int64 h) : Calls Tryz.prog 63 #[vi h] W (Ret fun v w' => v = vi (unmarked h) ∧ Below W.heap.size W w') := by
 refine cfr Tryz.func63 Tryz.ntmps63 fun a hF => ?_
 have hS := Sep.refl W
 refine rg hF rfl fun a hF => wp_seq_k fun K2 hK2 => ws fun K3 hK3 => ga 1 hF rfl fun a hF => ckr hF hS rfl (specIsMarked_c h1) fun w1 a hS hF => wl_nil <| hK3 _ _ <| cx 4 hF rfl (fun c4 hF => ?_) fun c4 hF => ?_
 ·
  refine rg hF rfl fun a hF => ?_
  refine xr ?_
  refine ret1 rfl hF rfl ⟨?_, hS.old⟩
  unfold unmarked; rw [c4]
  first | rfl | (rw [if_pos rfl, unmark_wrap c4 h1])
 refine wp_skip <| hK2 _ _ <| rg hF rfl fun a hF => ?_
 refine xr ?_
 refine ret1 rfl hF rfl ⟨?_, hS.old⟩
 unfold unmarked; rw [c4]
 first | rfl | (rw [if_pos rfl, unmark_wrap c4 h1])
theorem parts_c {W : World} {h : Int} (h1 : int64 h) : Calls Tryz.prog 111 #[vi h] W (Ret fun v w' => v = .tuple #[vi (indexOf h), vi (genOf h), .bool (isHandle h)] ∧ Below W.heap.size W w') := by
 refine cfr Tryz.func111 Tryz.ntmps111 fun a hF => ?_
 have hS := Sep.refl W
 refine rg hF rfl fun a hF => wp_seq_k fun K2 hK2 => rg hF rfl fun a hF => cx 7 hF rfl (fun c7 hF => ?_) fun c7 hF => ?_
 ·
  refine rg hF rfl fun a hF => ?_
  refine xr ?_
  first
    | (have e : isHandle h = false := by rw [Bool.eq_false_iff]; intro e; rw [isHandle_iff] at e; omega
       exact ret3 rfl hF rfl rfl rfl ⟨by unfold indexOf genOf; rw [e]; rfl, hS.old⟩)
    | (have e : isHandle h = true := by rw [isHandle_iff]; omega
       refine ret3 rfl hF rfl rfl rfl ⟨?_, hS.old⟩
       unfold indexOf genOf; rw [e, if_pos rfl, if_pos rfl]
       rw [hw3, hw4, show (h / 2 - 1) % 64 = h / 2 % 64 - 1 by omega, show (h / 2 - 1) / 64 = h / 2 / 64 by omega])
 have hw1 := half_pos (by omega) h1
 have h1u := h1; unfold int64 at h1u
 have hw2 : IntKind.i64.wrap (h / 2 - 1) = h / 2 - 1 := w64_id (by omega) (by omega)
 have hw3 := rem_pos (h := h / 2 - 1) 64 (by omega)
 have hw4 := q64_pos (h := h / 2 - 1) (by omega) (by unfold int64; omega)
 refine wp_skip <| hK2 _ _ <| ws fun K5 hK5 => ga 1 hF rfl fun a hF => wl hF rfl rfl rfl (r_quo (by first | decide | omega) (hF.ev rfl) ec) fun a hF => ge hK5 hF rfl fun a hF => wp_seq_k fun K6 hK6 => ?_
 refine ws fun K7 hK7 => ga 1 hF rfl fun a hF => wl hF rfl rfl rfl (r_rem (by first | decide | omega) (hF.ev rfl) ec) fun a hF => ga 2 hF rfl fun a hF => ?_
 apply wo 4 14 18 hF hS
 ·
  intro hg14 a hF
  refine ga 1 hF rfl fun a hF => wl_take hF rfl rfl rfl rfl <| wl hF rfl rfl rfl (r_quo (by first | decide | omega) (hF.ev rfl) ec) fun a hF => ?_
  exact je 4 hF hS rfl rfl rfl rfl
 intro a w1 hF hS
 refine wl_nil <| hK7 _ _ <| cx 18 hF rfl (fun c18 hF => ?_) fun c18 hF => ?_
 ·
  rw [hw1, hw2, hw3, hw4] at c18
  refine rg hF rfl fun a hF => ?_
  refine xr ?_
  first
    | (have e : isHandle h = false := by rw [Bool.eq_false_iff]; intro e; rw [isHandle_iff] at e; omega
       exact ret3 rfl hF rfl rfl rfl ⟨by unfold indexOf genOf; rw [e]; rfl, hS.old⟩)
    | (have e : isHandle h = true := by rw [isHandle_iff]; omega
       refine ret3 rfl hF rfl rfl rfl ⟨?_, hS.old⟩
       unfold indexOf genOf; rw [e, if_pos rfl, if_pos rfl]
       rw [hw3, hw4, show (h / 2 - 1) % 64 = h / 2 % 64 - 1 by omega, show (h / 2 - 1) / 64 = h / 2 / 64 by omega])
 rw [hw1, hw2, hw3, hw4] at c18
 rw [hw1, hw2, hw3, hw4] at hF
 refine wp_skip <| hK6 _ _ <| ws fun K9 hK9 => ga 1 hF rfl fun a hF => wl hF rfl rfl rfl (r_rem (by first | decide | omega) (hF.ev rfl) ec) fun a hF => ga 1 hF rfl fun a hF => wl hF rfl rfl rfl (r_quo (by first | decide | omega) (hF.ev rfl) ec) fun a hF => ?_
 refine ge hK9 hF rfl fun a hF => ?_
 refine xr ?_
 first
   | (have e : isHandle h = false := by rw [Bool.eq_false_iff]; intro e; rw [isHandle_iff] at e; omega
      exact ret3 rfl hF rfl rfl rfl ⟨by unfold indexOf genOf; rw [e]; rfl, hS.old⟩)
   | (have e : isHandle h = true := by rw [isHandle_iff]; omega
      refine ret3 rfl hF rfl rfl rfl ⟨?_, hS.old⟩
      unfold indexOf genOf; rw [e, if_pos rfl, if_pos rfl]
      rw [hw3, hw4, show (h / 2 - 1) % 64 = h / 2 % 64 - 1 by omega, show (h / 2 - 1) / 64 = h / 2 / 64 by omega])
theorem implIsHandle_c {W : World} {h : Int} (h1 : int64 h) : Calls Tryz.prog 87 #[vi h] W (Ret fun v w' => v = .bool (isHandle h) ∧ Below W.heap.size W w') := by
 refine cfr Tryz.func87 Tryz.ntmps87 fun a hF => ?_
 have hS := Sep.refl W
 refine rg hF rfl fun a hF => ws fun K2 hK2 => ga 1 hF rfl fun a hF => ckr hF hS rfl (parts_c h1) fun w1 a hS hF => ge hK2 hF rfl fun a hF => rg hF rfl fun a hF => ?_
 refine xr ?_
 exact ret1 rfl hF rfl ⟨rfl, hS.old⟩
theorem implIndexOf_c {W : World} {h : Int} (h1 : int64 h) : Calls Tryz.prog 88 #[vi h] W (Ret fun v w' => v = vi (indexOf h) ∧ Below W.heap.size W w') := by
 refine cfr Tryz.func88 Tryz.ntmps88 fun a hF => ?_
 have hS := Sep.refl W
 refine rg hF rfl fun a hF => ws fun K2 hK2 => ga 1 hF rfl fun a hF => ckr hF hS rfl (parts_c h1) fun w1 a hS hF => ge hK2 hF rfl fun a hF => rg hF rfl fun a hF => ?_
 refine xr ?_
 exact ret1 rfl hF rfl ⟨rfl, hS.old⟩
theorem implIsMarked_c {W : World} {h : Int} (h1 : int64 h) : Calls Tryz.prog 69 #[vi h] W (Ret fun v w' => v = .bool (isMarked h) ∧ Below W.heap.size W w') := by
 refine cfr Tryz.func69 Tryz.ntmps69 fun a hF => ?_
 have hS := Sep.refl W
 refine rg hF rfl fun a hF => ws fun K2 hK2 => ga 3 hF rfl fun a hF => ?_
 apply wo 8 5 13 hF hS
 ·
  intro hg5 a hF
  refine ga 1 hF rfl fun a hF => ckr hF hS rfl (implIsHandle_c h1) fun w1 a hS hF => ga 1 hF rfl fun a hF => ?_
  apply wa 4 8 12 hF hS
  ·
   intro hg8 a hF
   refine ga 1 hF rfl fun a hF => wl_take hF rfl rfl rfl rfl <| wl hF rfl rfl rfl (r_rem (by first | decide | omega) (hF.ev rfl) ec) fun a hF => ?_
   exact je 4 hF hS rfl rfl rfl rfl
  intro a w2 hF hS
  exact je 5 hF hS rfl rfl rfl rfl
 intro a w3 hF hS
 refine ge hK2 hF rfl fun a hF => ?_
 refine xr ?_
 refine ret1 rfl hF rfl ⟨congrArg Value.bool ?_, hS.old⟩
 by_cases h0 : 0 ≤ h
 · rw [rem_pos _ h0]; rfl
 · have e : isHandle h = false := by rw [Bool.eq_false_iff]; intro e; rw [isHandle_iff] at e; omega
   unfold isMarked; rw [e, Bool.false_and, Bool.false_and]
theorem implUnmarked_c {W : World} {h : Int} (h1 : int64 h) : Calls Tryz.prog 46 #[vi h] W (Ret fun v w' => v = vi (unmarked h) ∧ Below W.heap.size W w') := by
 refine cfr Tryz.func46 Tryz.ntmps46 fun a hF => ?_
 have hS := Sep.refl W
 refine rg hF rfl fun a hF => wp_seq_k fun K2 hK2 => ws fun K3 hK3 => ga 1 hF rfl fun a hF => ckr hF hS rfl (implIsMarked_c h1) fun w1 a hS hF => wl_nil <| hK3 _ _ <| cx 4 hF rfl (fun c4 hF => ?_) fun c4 hF => ?_
 ·
  refine rg hF rfl fun a hF => ?_
  refine xr ?_
  refine ret1 rfl hF rfl ⟨?_, hS.old⟩
  unfold unmarked; rw [c4]
  first | rfl | (rw [if_pos rfl, unmark_wrap c4 h1])
 refine wp_skip <| hK2 _ _ <| rg hF rfl fun a hF => ?_
 refine xr ?_
 refine ret1 rfl hF rfl ⟨?_, hS.old⟩
 unfold unmarked; rw [c4]
 first | rfl | (rw [if_pos rfl, unmark_wrap c4 h1])
set_option maxRecDepth 20000
theorem szEntryS_c {W : World} {va : Value} {xs : List Entry} {left : Int} (ha : entryEK.Rd W va xs) (h0 : 0 ≤ left) (h1 : left ≤ 1048576) : Calls Tryz.prog 57 #[va, vi left] W (Ret fun v w' => (∃ r : Int, v = vi r ∧ -1 ≤ r ∧ r ≤ left ∧ (0 ≤ r → (xs.length : Int) ≤ left - r)) ∧ Below W.heap.size W w') := by
 refine cfr Tryz.func57 Tryz.ntmps57 fun a hF => ?_
 obtain ⟨A_a, q_a, rfl, hq_a, hn_a⟩ := ha.sl; unfold maxLen at hn_a
 have hS := Sep.refl W
 have e : IntKind.i64.wrap (left - xs.length) = left - xs.length := w64_id (by omega) (by omega)
 refine rg hF rfl fun a hF => rg hF rfl fun a hF => wp_seq_k fun K3 hK3 => rg hF rfl fun a hF => ?_
 first | refine wc_dec (hF.ev rfl) (fun c10 => ?_) (fun c10 => ?_) | refine wc_ndec (hF.ev rfl) (fun c10 => ?_) (fun c10 => ?_) | refine wc_b (hF.ev rfl) (fun c10 => ?_) (fun c10 => ?_)
 ·
  refine rg hF rfl fun a hF => ?_
  refine xr ?_
  rw [e] at c10
  first | exact ret1 rfl hF rfl ⟨⟨-1, rfl, by omega, by omega, by omega⟩, hS.old⟩ | exact ret1 rfl hF rfl ⟨⟨_, congrArg vi e, by omega, by omega, by omega⟩, hS.old⟩
 refine wp_skip <| hK3 _ _ <| rg hF rfl fun a hF => ?_
 refine xr ?_
 rw [e] at c10
 first | exact ret1 rfl hF rfl ⟨⟨-1, rfl, by omega, by omega, by omega⟩, hS.old⟩ | exact ret1 rfl hF rfl ⟨⟨_, congrArg vi e, by omega, by omega, by omega⟩, hS.old⟩
theorem toEntry_c {W : World} (x : Entry) : Calls Tryz.prog 86 #[.agg x.enc.toArray] W (Ret fun v w' => v = .agg x.enc.toArray ∧ Below W.heap.size W w') := by
 refine cfr Tryz.func86 Tryz.ntmps86 fun a hF => ?_
 have hS := Sep.refl W
 refine ws fun K1 hK1 => wl_box (cs := [_, _, _, _]) hF hS rfl (hF.ev rfl) rfl fun g1 w1 a hS _ hF => wl_alloc hF hS rfl zr92 fun g2 w2 a hS _ hF => wl_nil <| hK1 _ _ <| ws fun K2 hK2 => wl_alloc hF hS rfl zr92 fun g3 w3 a hS _ hF => wl_nil (hK2 _ _ ?_)
 refine ws fun K3 hK3 => gb 3 2 hF hS rfl rfl rfl fun a hF => wv 0 hF hS rfl rfl rfl rfl rfl rfl fun w4 hS => wl_nil <| hK3 _ _ <| ws fun K4 hK4 => gb 3 2 hF hS rfl rfl rfl fun a hF => wv 0 hF hS rfl rfl rfl rfl rfl rfl fun w5 hS => ?_
 refine wl_nil <| hK4 _ _ <| ws fun K5 hK5 => gb 3 2 hF hS rfl rfl rfl fun a hF => wv 0 hF hS rfl rfl rfl rfl rfl rfl fun w6 hS => wl_nil <| hK5 _ _ <| ws fun K6 hK6 => gb 3 2 hF hS rfl rfl rfl fun a hF => ?_
 refine wv 0 hF hS rfl rfl rfl rfl rfl rfl fun w7 hS => wl_nil <| hK6 _ _ <| ws fun K7 hK7 => gb 1 0 hF hS rfl rfl rfl fun a hF => ww 1 hF hS rfl rfl rfl rfl rfl rfl fun w8 hS => wl_nil (hK7 _ _ ?_)
 refine xr ?_
 exact ret1c rfl ag92 hF hS (i := 1) rfl sz92 rfl ⟨rfl, hS.old⟩
theorem toEntryS_c {W : World} {va : Value} {xs : List Entry} (ha : entryEK.Rd W va xs) (hz : xs.length ≤ 1099511627776)  : Calls Tryz.prog 67 #[va] W (Ret (Mk W (fun s : Slv => sv s) (fun s => [Own (entryEK) (sv s) xs]))) := by
 refine cfr Tryz.func67 Tryz.ntmps67 fun a hF => ?_
 obtain ⟨A_a, q_a, rfl, hq_a, hn_a⟩ := ha.sl; unfold maxLen at hn_a
 have hS := Sep.refl W
 refine rg hF rfl fun a hF => ws fun K2 hK2 => ga 2 hF rfl fun a hF => ?_
 refine wl_make (entryEK) ⟨0, 0, 0, 0⟩ [] hF hS rfl mk66 rfl (fun _ => Sat.nil _ _) (hF.ev rfl) (by omega) (by unfold maxLen; omega) fun gm_7 w1 a hS hF => ?_
 refine ge hK2 hF rfl fun a hF => wp_seq_k fun K3 hK3 => rg hF rfl fun a hF => wp_block <| wp_loop_g (σ := Nat) (fun k a w => k ≤ xs.length ∧ Sep W [Own (entryEK) (.slice (some ⟨gm_7, 0, none⟩) xs.length xs.length) (xs.take k ++ List.replicate (xs.length - k) (⟨0, 0, 0, 0⟩))] w ∧ Fr 23 [(4, vi k), (3, .slice (some ⟨gm_7, 0, none⟩) xs.length xs.length), (0, .slice A_a xs.length q_a)] a) (fun k => xs.length - k) 0 ?_ ?_
 · refine ⟨Nat.zero_le _, ?_, (((hF.nil.keep hF (t := 0) rfl).keep hF (t := 3) rfl).keep hF (t := 4) rfl)⟩
   rw [List.take_zero, List.nil_append, Nat.sub_zero]; exact hS
 rintro k a w ⟨hk, hS, hF⟩
 refine wp_seq_k fun K5 hK5 => rg hF rfl fun a hF => ?_
 first | refine wc_dec (hF.ev rfl) (fun c11 => ?_) (fun c11 => ?_) | refine wc_ndec (hF.ev rfl) (fun c11 => ?_) (fun c11 => ?_) | refine wc_b (hF.ev rfl) (fun c11 => ?_) (fun c11 => ?_)
 ·
  have hlt : k < xs.length := by omega
  obtain ⟨x, hx⟩ : ∃ x, xs[k]? = some x := ⟨_, List.getElem?_eq_getElem hlt⟩
  obtain ⟨y, hy⟩ : ∃ y, (xs.take k ++ List.replicate (xs.length - k) (⟨0, 0, 0, 0⟩))[k]? = some y := ⟨_, List.getElem?_eq_getElem (by simp; omega)⟩
  refine wp_skip <| hK5 _ _ <| wp_seq_k fun K7 hK7 => wp_block <| wp_region_lit <| ga 4 hF rfl fun a hF => ?_
  obtain ⟨g18, o18, m18, q18, hv18, hm18, hl18, hc18⟩ := Rd.idxF (hS.rd ha) hx
  refine wl hF rfl rfl rfl (r_index sl57 ((hF.ev rfl).trans hv18) (hF.ev rfl) (by omega) (by omega)) fun a hF => wl hF rfl rfl rfl (r_loadn ag110 (hF.ev rfl) (hc18) sz110) fun a hF => ckr hF hS rfl (toEntry_c x) fun w2 a hS hF => ?_
  have hl21 : k < xs.length := hlt
  have hv21 : Value.slice (some ⟨gm_7, 0, none⟩) xs.length xs.length = _ := rfl
  refine wl hF rfl rfl rfl (r_index sl66 ((hF.ev rfl).trans hv21) (hF.ev rfl) (by omega) (by omega)) fun a hF => ?_
  replace hS : Sep W (Part entryEK x [] :: _) _ := hS.many_nil; refine wl_oput (q := 0) (i := k) hF hS rfl rfl hy sz92 (hF.ev rfl) rfl (hF.ev rfl) rfl fun w3 hS => ?_; dsimp only [List.set] at hS; rw [fill_set hx] at hS
  refine wl_nil ?_
  refine xt ?_
  refine hK7 _ _ <| rl hF rfl fun a hF => ?_
  refine xt ?_
  exact ⟨k + 1, ⟨by omega, hS, (((hF.nil.keep hF (t := 0) rfl).keep hF (t := 3) rfl).keepE hF (t := 4) rfl (wk (by omega)))⟩, by omega⟩
 refine wp_exit ?_
 refine xt ?_
 refine hK3 _ _ <| rg hF rfl fun a hF => ?_
 refine xr ?_
 obtain rfl : k = xs.length := by omega
 refine ret1 rfl hF rfl ?_
 rw [Nat.sub_self, List.replicate_zero, List.append_nil, List.take_length] at hS; exact hS.mkS rfl
def _root_.Go.Proofs.YtbgacfdnmbhloaaGreatDoor.Sl.Thread.size (t : Sl.Thread) : Nat := t.found.length + t.free.length + t.buffer.length + t.work.length + t.limbo.length
theorem szThread_c {W : World} {t : Sl.Thread} {cs : List Value} {left : Int} (hm : threadEK.K W t cs) (h0 : 0 ≤ left) (h1 : left ≤ 1048576) : Calls Tryz.prog 27 #[.agg cs.toArray, vi left] W (Ret fun v w' => (∃ r : Int, v = vi r ∧ -1 ≤ r ∧ r ≤ left ∧ (0 ≤ r → (t.size : Int) ≤ left - r)) ∧ Below W.heap.size W w') := by
 refine cfr Tryz.func27 Tryz.ntmps27 fun a hF => ?_
 obtain ⟨v0, v1, v2, v3, v4, rfl, r0, r1, r2, r3, r4⟩ := hm
 have hS := Sep.refl W
 refine ws fun K1 hK1 => wl_box (cs := [_, _, _, _, _, _, _, _, _, _, _, _, _, _, _, _, _, _, _]) hF hS rfl (hF.ev rfl) rfl fun g1 w1 a hS _ hF => ge hK1 hF rfl fun a hF => ws fun K2 hK2 => gb 3 0 hF hS rfl rfl rfl fun a hF => ?_
 refine ck hF rfl (szIntS_c (hS.rd r0) (by omega) (by omega)) ?_; rintro v w2 a ⟨⟨r8, rfl, e1_8, e2_8, e3_8⟩, hB_⟩ hF; have hS := hS.ext hB_
 refine ge hK2 hF rfl fun a hF => wp_seq_k fun K3 hK3 => rg hF rfl fun a hF => ?_
 first | refine wc_dec (hF.ev rfl) (fun c10 => ?_) (fun c10 => ?_) | refine wc_ndec (hF.ev rfl) (fun c10 => ?_) (fun c10 => ?_) | refine wc_b (hF.ev rfl) (fun c10 => ?_) (fun c10 => ?_)
 ·
  refine rg hF rfl fun a hF => ?_
  refine xr ?_
  first | exact ret1 rfl hF rfl ⟨⟨-1, rfl, by omega, by omega, by omega⟩, hS.old⟩ | exact ret1 rfl hF rfl ⟨⟨_, rfl, by omega, by omega, fun h => by unfold Sl.Thread.size; omega⟩, hS.old⟩
 refine wp_skip <| hK3 _ _ <| ws fun K6 hK6 => gb 3 0 hF hS rfl rfl rfl fun a hF => ?_
 refine ck hF rfl (szIntS_c (hS.rd r1) (by omega) (by omega)) ?_; rintro v w3 a ⟨⟨r14, rfl, e1_14, e2_14, e3_14⟩, hB_⟩ hF; have hS := hS.ext hB_
 refine ge hK6 hF rfl fun a hF => wp_seq_k fun K7 hK7 => rg hF rfl fun a hF => ?_
 first | refine wc_dec (hF.ev rfl) (fun c16 => ?_) (fun c16 => ?_) | refine wc_ndec (hF.ev rfl) (fun c16 => ?_) (fun c16 => ?_) | refine wc_b (hF.ev rfl) (fun c16 => ?_) (fun c16 => ?_)
 ·
  refine rg hF rfl fun a hF => ?_
  refine xr ?_
  first | exact ret1 rfl hF rfl ⟨⟨-1, rfl, by omega, by omega, by omega⟩, hS.old⟩ | exact ret1 rfl hF rfl ⟨⟨_, rfl, by omega, by omega, fun h => by unfold Sl.Thread.size; omega⟩, hS.old⟩
 refine wp_skip <| hK7 _ _ <| ws fun K10 hK10 => gb 3 0 hF hS rfl rfl rfl fun a hF => ?_
 refine ck hF rfl (szEntryS_c (hS.rd r2) (by omega) (by omega)) ?_; rintro v w4 a ⟨⟨r20, rfl, e1_20, e2_20, e3_20⟩, hB_⟩ hF; have hS := hS.ext hB_
 refine ge hK10 hF rfl fun a hF => wp_seq_k fun K11 hK11 => rg hF rfl fun a hF => ?_
 first | refine wc_dec (hF.ev rfl) (fun c22 => ?_) (fun c22 => ?_) | refine wc_ndec (hF.ev rfl) (fun c22 => ?_) (fun c22 => ?_) | refine wc_b (hF.ev rfl) (fun c22 => ?_) (fun c22 => ?_)
 ·
  refine rg hF rfl fun a hF => ?_
  refine xr ?_
  first | exact ret1 rfl hF rfl ⟨⟨-1, rfl, by omega, by omega, by omega⟩, hS.old⟩ | exact ret1 rfl hF rfl ⟨⟨_, rfl, by omega, by omega, fun h => by unfold Sl.Thread.size; omega⟩, hS.old⟩
 refine wp_skip <| hK11 _ _ <| ws fun K14 hK14 => gb 3 0 hF hS rfl rfl rfl fun a hF => ?_
 refine ck hF rfl (szEntryS_c (hS.rd r3) (by omega) (by omega)) ?_; rintro v w5 a ⟨⟨r26, rfl, e1_26, e2_26, e3_26⟩, hB_⟩ hF; have hS := hS.ext hB_
 refine ge hK14 hF rfl fun a hF => wp_seq_k fun K15 hK15 => rg hF rfl fun a hF => ?_
 first | refine wc_dec (hF.ev rfl) (fun c28 => ?_) (fun c28 => ?_) | refine wc_ndec (hF.ev rfl) (fun c28 => ?_) (fun c28 => ?_) | refine wc_b (hF.ev rfl) (fun c28 => ?_) (fun c28 => ?_)
 ·
  refine rg hF rfl fun a hF => ?_
  refine xr ?_
  first | exact ret1 rfl hF rfl ⟨⟨-1, rfl, by omega, by omega, by omega⟩, hS.old⟩ | exact ret1 rfl hF rfl ⟨⟨_, rfl, by omega, by omega, fun h => by unfold Sl.Thread.size; omega⟩, hS.old⟩
 refine wp_skip <| hK15 _ _ <| ws fun K18 hK18 => gb 3 0 hF hS rfl rfl rfl fun a hF => ?_
 refine ck hF rfl (szIntS_c (hS.rd r4) (by omega) (by omega)) ?_; rintro v w6 a ⟨⟨r32, rfl, e1_32, e2_32, e3_32⟩, hB_⟩ hF; have hS := hS.ext hB_
 refine ge hK18 hF rfl fun a hF => wp_seq_k fun K19 hK19 => rg hF rfl fun a hF => ?_
 first | refine wc_dec (hF.ev rfl) (fun c34 => ?_) (fun c34 => ?_) | refine wc_ndec (hF.ev rfl) (fun c34 => ?_) (fun c34 => ?_) | refine wc_b (hF.ev rfl) (fun c34 => ?_) (fun c34 => ?_)
 ·
  refine rg hF rfl fun a hF => ?_
  refine xr ?_
  first | exact ret1 rfl hF rfl ⟨⟨-1, rfl, by omega, by omega, by omega⟩, hS.old⟩ | exact ret1 rfl hF rfl ⟨⟨_, rfl, by omega, by omega, fun h => by unfold Sl.Thread.size; omega⟩, hS.old⟩
 refine wp_skip <| hK19 _ _ <| rg hF rfl fun a hF => ?_
 refine xr ?_
 first | exact ret1 rfl hF rfl ⟨⟨-1, rfl, by omega, by omega, by omega⟩, hS.old⟩ | exact ret1 rfl hF rfl ⟨⟨_, rfl, by omega, by omega, fun h => by unfold Sl.Thread.size; omega⟩, hS.old⟩
theorem toThread_c {W : World} {t : Sl.Thread} {cs : List Value} (hm : threadEK.K W t cs) (hz : t.size ≤ 1048576) : Calls Tryz.prog 38 #[.agg cs.toArray] W (Ret (Mk W (fun vs => .agg (threadEK.cells t vs).toArray) (fun vs => [Part threadEK t vs]))) := by
 refine cfr Tryz.func38 Tryz.ntmps38 fun a hF => ?_
 obtain ⟨v0, v1, v2, v3, v4, rfl, r0, r1, r2, r3, r4⟩ := hm
 unfold Sl.Thread.size at hz
 have hS := Sep.refl W
 refine ws fun K1 hK1 => wl_box (cs := [_, _, _, _, _, _, _, _, _, _, _, _, _, _, _, _, _, _, _]) hF hS rfl (hF.ev rfl) rfl fun g1 w1 a hS _ hF => wl_alloc hF hS rfl zr68 fun g2 w2 a hS _ hF => wl_nil <| hK1 _ _ <| ws fun K2 hK2 => wl_alloc hF hS rfl zr68 fun g3 w3 a hS _ hF => wl_nil (hK2 _ _ ?_)
 refine ws fun K3 hK3 => gb 3 2 hF hS rfl rfl rfl fun a hF => wv 0 hF hS rfl rfl rfl rfl rfl rfl fun w4 hS => wl_nil <| hK3 _ _ <| ws fun K4 hK4 => ga 1 hF rfl fun a hF => wl hF rfl rfl rfl (r_loadn ag54 (hF.ev rfl) (hS.boxn (vs := [_, _, _]) (i := 2) (m := 3) rfl rfl) sz54) fun a hF => ?_
 refine ckr hF hS rfl (toOp_c _) fun w5 a hS hF => ga 1 hF rfl fun a hF => ?_
 refine wl_storen (cs' := [_, _, _, _, _, _, _, _, _, _, _, _, _, _, _, _, _, _, _]) hF hS (i := 0) rfl (hF.ev rfl) (hF.ev rfl) sz64 ⟨rfl, rfl⟩ rfl rfl fun w6 hS => ?_; dsimp only [List.set] at hS
 refine wl_nil <| hK4 _ _ <| ws fun K5 hK5 => ga 1 hF rfl fun a hF => wl hF rfl rfl rfl (r_loadn ag56 (hF.ev rfl) (hS.boxn (vs := [_, _]) (i := 2) (m := 2) rfl rfl) sz56) fun a hF => ckr hF hS rfl (toResult_c _) fun w7 a hS hF => ga 1 hF rfl fun a hF => ?_
 refine wl_storen (cs' := [_, _, _, _, _, _, _, _, _, _, _, _, _, _, _, _, _, _, _]) hF hS (i := 0) rfl (hF.ev rfl) (hF.ev rfl) sz65 ⟨rfl, rfl⟩ rfl rfl fun w8 hS => ?_; dsimp only [List.set] at hS
 refine wl_nil <| hK5 _ _ <| ws fun K6 hK6 => gb 3 2 hF hS rfl rfl rfl fun a hF => wv 0 hF hS rfl rfl rfl rfl rfl rfl fun w9 hS => wl_nil <| hK6 _ _ <| ws fun K7 hK7 => gb 3 2 hF hS rfl rfl rfl fun a hF => ?_
 refine wv 0 hF hS rfl rfl rfl rfl rfl rfl fun w10 hS => wl_nil <| hK7 _ _ <| ws fun K8 hK8 => gb 3 2 hF hS rfl rfl rfl fun a hF => wv 0 hF hS rfl rfl rfl rfl rfl rfl fun w11 hS => wl_nil <| hK8 _ _ <| ws fun K9 hK9 => ?_
 refine gb 3 2 hF hS rfl rfl rfl fun a hF => wv 0 hF hS rfl rfl rfl rfl rfl rfl fun w12 hS => wl_nil <| hK9 _ _ <| ws fun K10 hK10 => gb 3 2 hF hS rfl rfl rfl fun a hF => wv 0 hF hS rfl rfl rfl rfl rfl rfl fun w13 hS => wl_nil (hK10 _ _ ?_)
 refine ws fun K11 hK11 => gb 3 2 hF hS rfl rfl rfl fun a hF => wv 0 hF hS rfl rfl rfl rfl rfl rfl fun w14 hS => wl_nil <| hK11 _ _ <| ws fun K12 hK12 => gb 3 2 hF hS rfl rfl rfl fun a hF => wv 0 hF hS rfl rfl rfl rfl rfl rfl fun w15 hS => ?_
 refine wl_nil <| hK12 _ _ <| ws fun K13 hK13 => gb 3 2 hF hS rfl rfl rfl fun a hF => wv 0 hF hS rfl rfl rfl rfl rfl rfl fun w16 hS => wl_nil <| hK13 _ _ <| ws fun K14 hK14 => gb 2 2 hF hS rfl rfl rfl fun a hF => ?_
 refine wl_mk hF hS rfl rfl rfl (r_call1 en16 (hF.ev rfl)) (toIntS_c (hS.rd r0) (by omega)) ?_; rintro s41 w17 a hS_ hF; replace hS := hS_; clear hS_; dsimp only [List.cons_append, List.nil_append] at hS
 refine ga 1 hF rfl fun a hF => wv 1 hF hS rfl rfl rfl rfl rfl rfl fun w18 hS => wl_nil <| hK14 _ _ <| ws fun K15 hK15 => gb 2 3 hF hS rfl rfl rfl fun a hF => ?_
 refine wl_mk hF hS rfl rfl rfl (r_call1 en16 (hF.ev rfl)) (toIntS_c (hS.rd r1) (by omega)) ?_; rintro s45 w19 a hS_ hF; replace hS := hS_; clear hS_; dsimp only [List.cons_append, List.nil_append] at hS
 refine ga 1 hF rfl fun a hF => wv 2 hF hS rfl rfl rfl rfl rfl rfl fun w20 hS => wl_nil <| hK15 _ _ <| ws fun K16 hK16 => gb 2 4 hF hS rfl rfl rfl fun a hF => ?_
 refine wl_mk hF hS rfl rfl rfl (r_call1 en67 (hF.ev rfl)) (toEntryS_c (hS.rd r2) (by omega)) ?_; rintro s49 w21 a hS_ hF; replace hS := hS_; clear hS_; dsimp only [List.cons_append, List.nil_append] at hS
 refine ga 1 hF rfl fun a hF => wv 3 hF hS rfl rfl rfl rfl rfl rfl fun w22 hS => wl_nil <| hK16 _ _ <| ws fun K17 hK17 => gb 2 5 hF hS rfl rfl rfl fun a hF => ?_
 refine wl_mk hF hS rfl rfl rfl (r_call1 en67 (hF.ev rfl)) (toEntryS_c (hS.rd r3) (by omega)) ?_; rintro s53 w23 a hS_ hF; replace hS := hS_; clear hS_; dsimp only [List.cons_append, List.nil_append] at hS
 refine ga 1 hF rfl fun a hF => wv 4 hF hS rfl rfl rfl rfl rfl rfl fun w24 hS => wl_nil <| hK17 _ _ <| ws fun K18 hK18 => gb 2 6 hF hS rfl rfl rfl fun a hF => ?_
 refine wl_mk hF hS rfl rfl rfl (r_call1 en16 (hF.ev rfl)) (toIntS_c (hS.rd r4) (by omega)) ?_; rintro s57 w25 a hS_ hF; replace hS := hS_; clear hS_; dsimp only [List.cons_append, List.nil_append] at hS
 refine ga 1 hF rfl fun a hF => wv 5 hF hS rfl rfl rfl rfl rfl rfl fun w26 hS => wl_nil <| hK18 _ _ <| ws fun K19 hK19 => gb 1 5 hF hS rfl rfl rfl fun a hF => ww 6 hF hS rfl rfl rfl rfl rfl rfl fun w27 hS => wl_nil (hK19 _ _ ?_)
 refine xr ?_
 exact ret1c rfl ag68 hF hS (i := 6) rfl sz68 rfl ⟨[s41, s45, s49, s53, s57], rfl, hS.part_of [4, 3, 2, 1, 0] (by decide) rfl⟩
theorem eqThread_c {W : World} {x y : Sl.Thread} {cs ds : List Value} (hx : threadEK.K W x cs) (hy : threadEK.K W y ds) : Calls Tryz.prog 56 #[.agg cs.toArray, .agg ds.toArray] W (Ret fun v w' => v = .bool (decide (x = y)) ∧ Below W.heap.size W w') := by
 refine cfr Tryz.func56 Tryz.ntmps56 fun a hF => ?_
 obtain ⟨v0, v1, v2, v3, v4, rfl, r0, r1, r2, r3, r4⟩ := hx
 obtain ⟨u0, u1, u2, u3, u4, rfl, q0, q1, q2, q3, q4⟩ := hy
 have hS := Sep.refl W
 refine ws fun K1 hK1 => wl_box (cs := [_, _, _, _, _, _, _, _, _, _, _, _, _, _, _, _, _, _, _]) hF hS rfl (hF.ev rfl) rfl fun g1 w1 a hS _ hF => wl_box (cs := [_, _, _, _, _, _, _, _, _, _, _, _, _, _, _, _, _, _, _]) hF hS rfl (hF.ev rfl) rfl fun g2 w2 a hS _ hF => ge hK1 hF rfl fun a hF => wp_seq_k fun K2 hK2 => ws fun K3 hK3 => gb 3 1 hF hS rfl rfl rfl fun a hF => ?_
 refine gf hK3 0 hF hS rfl rfl rfl fun a hF => ?_
 first | refine wc_dec (hF.ev rfl) (fun c9 => ?_) (fun c9 => ?_) | refine wc_ndec (hF.ev rfl) (fun c9 => ?_) (fun c9 => ?_) | refine wc_b (hF.ev rfl) (fun c9 => ?_) (fun c9 => ?_)
 ·
  refine rg hF rfl fun a hF => ?_
  refine xr ?_
  refine ret1 rfl hF rfl ⟨congrArg Value.bool (Eq.symm ?_), hS.old⟩
  first | exact decide_eq_false (fun e => by subst e; first | exact c9 rfl | exact c15 rfl | exact c21 rfl | exact c26 rfl | exact c31 rfl | exact c36 rfl | exact c41 rfl | exact c46 rfl | exact c51 rfl | exact c56 rfl | exact c61 rfl | exact c67 rfl | exact c73 rfl | exact c79 rfl | exact c85 rfl | exact c91 rfl) | exact decide_eq_true (by cases x; cases y; simp only [Sl.Thread.mk.injEq]; exact ⟨c9, c15, c21, c26, c31, c36, c41, c46, c51, c56, c61, c67, c73, c79, c85, c91⟩)
 refine wp_skip <| hK2 _ _ <| wp_seq_k fun K5 hK5 => ws fun K6 hK6 => ga 1 hF rfl fun a hF => wl hF rfl rfl rfl (r_loadn ag64 (hF.ev rfl) (hS.boxn (vs := [_, _, _]) (i := 1) (m := 3) rfl rfl) sz64) fun a hF => ga 1 hF rfl fun a hF => ?_
 refine wl hF rfl rfl rfl (r_loadn ag64 (hF.ev rfl) (hS.boxn (vs := [_, _, _]) (i := 0) (m := 3) rfl rfl) sz64) fun a hF => ckr hF hS rfl (eqOp_c (x := x.op) (y := y.op)) fun w3 a hS hF => ge hK6 hF rfl fun a hF => ?_
 first | refine wc_dec (hF.ev rfl) (fun c15 => ?_) (fun c15 => ?_) | refine wc_ndec (hF.ev rfl) (fun c15 => ?_) (fun c15 => ?_) | refine wc_b (hF.ev rfl) (fun c15 => ?_) (fun c15 => ?_)
 ·
  refine rg hF rfl fun a hF => ?_
  refine xr ?_
  refine ret1 rfl hF rfl ⟨congrArg Value.bool (Eq.symm ?_), hS.old⟩
  first | exact decide_eq_false (fun e => by subst e; first | exact c9 rfl | exact c15 rfl | exact c21 rfl | exact c26 rfl | exact c31 rfl | exact c36 rfl | exact c41 rfl | exact c46 rfl | exact c51 rfl | exact c56 rfl | exact c61 rfl | exact c67 rfl | exact c73 rfl | exact c79 rfl | exact c85 rfl | exact c91 rfl) | exact decide_eq_true (by cases x; cases y; simp only [Sl.Thread.mk.injEq]; exact ⟨c9, c15, c21, c26, c31, c36, c41, c46, c51, c56, c61, c67, c73, c79, c85, c91⟩)
 refine wp_skip <| hK5 _ _ <| wp_seq_k fun K8 hK8 => ws fun K9 hK9 => ga 1 hF rfl fun a hF => wl hF rfl rfl rfl (r_loadn ag65 (hF.ev rfl) (hS.boxn (vs := [_, _]) (i := 1) (m := 2) rfl rfl) sz65) fun a hF => ga 1 hF rfl fun a hF => ?_
 refine wl hF rfl rfl rfl (r_loadn ag65 (hF.ev rfl) (hS.boxn (vs := [_, _]) (i := 0) (m := 2) rfl rfl) sz65) fun a hF => ckr hF hS rfl (eqResult_c (x := x.result) (y := y.result)) fun w4 a hS hF => ge hK9 hF rfl fun a hF => ?_
 first | refine wc_dec (hF.ev rfl) (fun c21 => ?_) (fun c21 => ?_) | refine wc_ndec (hF.ev rfl) (fun c21 => ?_) (fun c21 => ?_) | refine wc_b (hF.ev rfl) (fun c21 => ?_) (fun c21 => ?_)
 ·
  refine rg hF rfl fun a hF => ?_
  refine xr ?_
  refine ret1 rfl hF rfl ⟨congrArg Value.bool (Eq.symm ?_), hS.old⟩
  first | exact decide_eq_false (fun e => by subst e; first | exact c9 rfl | exact c15 rfl | exact c21 rfl | exact c26 rfl | exact c31 rfl | exact c36 rfl | exact c41 rfl | exact c46 rfl | exact c51 rfl | exact c56 rfl | exact c61 rfl | exact c67 rfl | exact c73 rfl | exact c79 rfl | exact c85 rfl | exact c91 rfl) | exact decide_eq_true (by cases x; cases y; simp only [Sl.Thread.mk.injEq]; exact ⟨c9, c15, c21, c26, c31, c36, c41, c46, c51, c56, c61, c67, c73, c79, c85, c91⟩)
 refine wp_skip <| hK8 _ _ <| wp_seq_k fun K11 hK11 => ws fun K12 hK12 => gb 3 1 hF hS rfl rfl rfl fun a hF => gf hK12 0 hF hS rfl rfl rfl fun a hF => ?_
 first | refine wc_dec (hF.ev rfl) (fun c26 => ?_) (fun c26 => ?_) | refine wc_ndec (hF.ev rfl) (fun c26 => ?_) (fun c26 => ?_) | refine wc_b (hF.ev rfl) (fun c26 => ?_) (fun c26 => ?_)
 ·
  refine rg hF rfl fun a hF => ?_
  refine xr ?_
  refine ret1 rfl hF rfl ⟨congrArg Value.bool (Eq.symm ?_), hS.old⟩
  first | exact decide_eq_false (fun e => by subst e; first | exact c9 rfl | exact c15 rfl | exact c21 rfl | exact c26 rfl | exact c31 rfl | exact c36 rfl | exact c41 rfl | exact c46 rfl | exact c51 rfl | exact c56 rfl | exact c61 rfl | exact c67 rfl | exact c73 rfl | exact c79 rfl | exact c85 rfl | exact c91 rfl) | exact decide_eq_true (by cases x; cases y; simp only [Sl.Thread.mk.injEq]; exact ⟨c9, c15, c21, c26, c31, c36, c41, c46, c51, c56, c61, c67, c73, c79, c85, c91⟩)
 refine wp_skip <| hK11 _ _ <| wp_seq_k fun K14 hK14 => ws fun K15 hK15 => gb 3 1 hF hS rfl rfl rfl fun a hF => gf hK15 0 hF hS rfl rfl rfl fun a hF => ?_
 first | refine wc_dec (hF.ev rfl) (fun c31 => ?_) (fun c31 => ?_) | refine wc_ndec (hF.ev rfl) (fun c31 => ?_) (fun c31 => ?_) | refine wc_b (hF.ev rfl) (fun c31 => ?_) (fun c31 => ?_)
 ·
  refine rg hF rfl fun a hF => ?_
  refine xr ?_
  refine ret1 rfl hF rfl ⟨congrArg Value.bool (Eq.symm ?_), hS.old⟩
  first | exact decide_eq_false (fun e => by subst e; first | exact c9 rfl | exact c15 rfl | exact c21 rfl | exact c26 rfl | exact c31 rfl | exact c36 rfl | exact c41 rfl | exact c46 rfl | exact c51 rfl | exact c56 rfl | exact c61 rfl | exact c67 rfl | exact c73 rfl | exact c79 rfl | exact c85 rfl | exact c91 rfl) | exact decide_eq_true (by cases x; cases y; simp only [Sl.Thread.mk.injEq]; exact ⟨c9, c15, c21, c26, c31, c36, c41, c46, c51, c56, c61, c67, c73, c79, c85, c91⟩)
 refine wp_skip <| hK14 _ _ <| wp_seq_k fun K17 hK17 => ws fun K18 hK18 => gb 3 1 hF hS rfl rfl rfl fun a hF => gf hK18 0 hF hS rfl rfl rfl fun a hF => ?_
 first | refine wc_dec (hF.ev rfl) (fun c36 => ?_) (fun c36 => ?_) | refine wc_ndec (hF.ev rfl) (fun c36 => ?_) (fun c36 => ?_) | refine wc_b (hF.ev rfl) (fun c36 => ?_) (fun c36 => ?_)
 ·
  refine rg hF rfl fun a hF => ?_
  refine xr ?_
  refine ret1 rfl hF rfl ⟨congrArg Value.bool (Eq.symm ?_), hS.old⟩
  first | exact decide_eq_false (fun e => by subst e; first | exact c9 rfl | exact c15 rfl | exact c21 rfl | exact c26 rfl | exact c31 rfl | exact c36 rfl | exact c41 rfl | exact c46 rfl | exact c51 rfl | exact c56 rfl | exact c61 rfl | exact c67 rfl | exact c73 rfl | exact c79 rfl | exact c85 rfl | exact c91 rfl) | exact decide_eq_true (by cases x; cases y; simp only [Sl.Thread.mk.injEq]; exact ⟨c9, c15, c21, c26, c31, c36, c41, c46, c51, c56, c61, c67, c73, c79, c85, c91⟩)
 refine wp_skip <| hK17 _ _ <| wp_seq_k fun K20 hK20 => ws fun K21 hK21 => gb 3 1 hF hS rfl rfl rfl fun a hF => gf hK21 0 hF hS rfl rfl rfl fun a hF => ?_
 first | refine wc_dec (hF.ev rfl) (fun c41 => ?_) (fun c41 => ?_) | refine wc_ndec (hF.ev rfl) (fun c41 => ?_) (fun c41 => ?_) | refine wc_b (hF.ev rfl) (fun c41 => ?_) (fun c41 => ?_)
 ·
  refine rg hF rfl fun a hF => ?_
  refine xr ?_
  refine ret1 rfl hF rfl ⟨congrArg Value.bool (Eq.symm ?_), hS.old⟩
  first | exact decide_eq_false (fun e => by subst e; first | exact c9 rfl | exact c15 rfl | exact c21 rfl | exact c26 rfl | exact c31 rfl | exact c36 rfl | exact c41 rfl | exact c46 rfl | exact c51 rfl | exact c56 rfl | exact c61 rfl | exact c67 rfl | exact c73 rfl | exact c79 rfl | exact c85 rfl | exact c91 rfl) | exact decide_eq_true (by cases x; cases y; simp only [Sl.Thread.mk.injEq]; exact ⟨c9, c15, c21, c26, c31, c36, c41, c46, c51, c56, c61, c67, c73, c79, c85, c91⟩)
 refine wp_skip <| hK20 _ _ <| wp_seq_k fun K23 hK23 => ws fun K24 hK24 => gb 3 1 hF hS rfl rfl rfl fun a hF => gf hK24 0 hF hS rfl rfl rfl fun a hF => ?_
 first | refine wc_dec (hF.ev rfl) (fun c46 => ?_) (fun c46 => ?_) | refine wc_ndec (hF.ev rfl) (fun c46 => ?_) (fun c46 => ?_) | refine wc_b (hF.ev rfl) (fun c46 => ?_) (fun c46 => ?_)
 ·
  refine rg hF rfl fun a hF => ?_
  refine xr ?_
  refine ret1 rfl hF rfl ⟨congrArg Value.bool (Eq.symm ?_), hS.old⟩
  first | exact decide_eq_false (fun e => by subst e; first | exact c9 rfl | exact c15 rfl | exact c21 rfl | exact c26 rfl | exact c31 rfl | exact c36 rfl | exact c41 rfl | exact c46 rfl | exact c51 rfl | exact c56 rfl | exact c61 rfl | exact c67 rfl | exact c73 rfl | exact c79 rfl | exact c85 rfl | exact c91 rfl) | exact decide_eq_true (by cases x; cases y; simp only [Sl.Thread.mk.injEq]; exact ⟨c9, c15, c21, c26, c31, c36, c41, c46, c51, c56, c61, c67, c73, c79, c85, c91⟩)
 refine wp_skip <| hK23 _ _ <| wp_seq_k fun K26 hK26 => ws fun K27 hK27 => gb 3 1 hF hS rfl rfl rfl fun a hF => gf hK27 0 hF hS rfl rfl rfl fun a hF => ?_
 first | refine wc_dec (hF.ev rfl) (fun c51 => ?_) (fun c51 => ?_) | refine wc_ndec (hF.ev rfl) (fun c51 => ?_) (fun c51 => ?_) | refine wc_b (hF.ev rfl) (fun c51 => ?_) (fun c51 => ?_)
 ·
  refine rg hF rfl fun a hF => ?_
  refine xr ?_
  refine ret1 rfl hF rfl ⟨congrArg Value.bool (Eq.symm ?_), hS.old⟩
  first | exact decide_eq_false (fun e => by subst e; first | exact c9 rfl | exact c15 rfl | exact c21 rfl | exact c26 rfl | exact c31 rfl | exact c36 rfl | exact c41 rfl | exact c46 rfl | exact c51 rfl | exact c56 rfl | exact c61 rfl | exact c67 rfl | exact c73 rfl | exact c79 rfl | exact c85 rfl | exact c91 rfl) | exact decide_eq_true (by cases x; cases y; simp only [Sl.Thread.mk.injEq]; exact ⟨c9, c15, c21, c26, c31, c36, c41, c46, c51, c56, c61, c67, c73, c79, c85, c91⟩)
 refine wp_skip <| hK26 _ _ <| wp_seq_k fun K29 hK29 => ws fun K30 hK30 => gb 3 1 hF hS rfl rfl rfl fun a hF => gf hK30 0 hF hS rfl rfl rfl fun a hF => ?_
 first | refine wc_dec (hF.ev rfl) (fun c56 => ?_) (fun c56 => ?_) | refine wc_ndec (hF.ev rfl) (fun c56 => ?_) (fun c56 => ?_) | refine wc_b (hF.ev rfl) (fun c56 => ?_) (fun c56 => ?_)
 ·
  refine rg hF rfl fun a hF => ?_
  refine xr ?_
  refine ret1 rfl hF rfl ⟨congrArg Value.bool (Eq.symm ?_), hS.old⟩
  first | exact decide_eq_false (fun e => by subst e; first | exact c9 rfl | exact c15 rfl | exact c21 rfl | exact c26 rfl | exact c31 rfl | exact c36 rfl | exact c41 rfl | exact c46 rfl | exact c51 rfl | exact c56 rfl | exact c61 rfl | exact c67 rfl | exact c73 rfl | exact c79 rfl | exact c85 rfl | exact c91 rfl) | exact decide_eq_true (by cases x; cases y; simp only [Sl.Thread.mk.injEq]; exact ⟨c9, c15, c21, c26, c31, c36, c41, c46, c51, c56, c61, c67, c73, c79, c85, c91⟩)
 refine wp_skip <| hK29 _ _ <| wp_seq_k fun K32 hK32 => ws fun K33 hK33 => gb 3 1 hF hS rfl rfl rfl fun a hF => gf hK33 0 hF hS rfl rfl rfl fun a hF => ?_
 first | refine wc_dec (hF.ev rfl) (fun c61 => ?_) (fun c61 => ?_) | refine wc_ndec (hF.ev rfl) (fun c61 => ?_) (fun c61 => ?_) | refine wc_b (hF.ev rfl) (fun c61 => ?_) (fun c61 => ?_)
 ·
  refine rg hF rfl fun a hF => ?_
  refine xr ?_
  refine ret1 rfl hF rfl ⟨congrArg Value.bool (Eq.symm ?_), hS.old⟩
  first | exact decide_eq_false (fun e => by subst e; first | exact c9 rfl | exact c15 rfl | exact c21 rfl | exact c26 rfl | exact c31 rfl | exact c36 rfl | exact c41 rfl | exact c46 rfl | exact c51 rfl | exact c56 rfl | exact c61 rfl | exact c67 rfl | exact c73 rfl | exact c79 rfl | exact c85 rfl | exact c91 rfl) | exact decide_eq_true (by cases x; cases y; simp only [Sl.Thread.mk.injEq]; exact ⟨c9, c15, c21, c26, c31, c36, c41, c46, c51, c56, c61, c67, c73, c79, c85, c91⟩)
 refine wp_skip <| hK32 _ _ <| wp_seq_k fun K35 hK35 => ws fun K36 hK36 => gb 3 1 hF hS rfl rfl rfl fun a hF => gb 1 0 hF hS rfl rfl rfl fun a hF => ckr hF hS rfl (eqIntS_c (hS.rd r0) (hS.rd q0)) fun w5 a hS hF => ?_
 refine ge hK36 hF rfl fun a hF => ?_
 first | refine wc_dec (hF.ev rfl) (fun c67 => ?_) (fun c67 => ?_) | refine wc_ndec (hF.ev rfl) (fun c67 => ?_) (fun c67 => ?_) | refine wc_b (hF.ev rfl) (fun c67 => ?_) (fun c67 => ?_)
 ·
  refine rg hF rfl fun a hF => ?_
  refine xr ?_
  refine ret1 rfl hF rfl ⟨congrArg Value.bool (Eq.symm ?_), hS.old⟩
  first | exact decide_eq_false (fun e => by subst e; first | exact c9 rfl | exact c15 rfl | exact c21 rfl | exact c26 rfl | exact c31 rfl | exact c36 rfl | exact c41 rfl | exact c46 rfl | exact c51 rfl | exact c56 rfl | exact c61 rfl | exact c67 rfl | exact c73 rfl | exact c79 rfl | exact c85 rfl | exact c91 rfl) | exact decide_eq_true (by cases x; cases y; simp only [Sl.Thread.mk.injEq]; exact ⟨c9, c15, c21, c26, c31, c36, c41, c46, c51, c56, c61, c67, c73, c79, c85, c91⟩)
 refine wp_skip <| hK35 _ _ <| wp_seq_k fun K38 hK38 => ws fun K39 hK39 => gb 3 1 hF hS rfl rfl rfl fun a hF => gb 1 0 hF hS rfl rfl rfl fun a hF => ckr hF hS rfl (eqIntS_c (hS.rd r1) (hS.rd q1)) fun w6 a hS hF => ?_
 refine ge hK39 hF rfl fun a hF => ?_
 first | refine wc_dec (hF.ev rfl) (fun c73 => ?_) (fun c73 => ?_) | refine wc_ndec (hF.ev rfl) (fun c73 => ?_) (fun c73 => ?_) | refine wc_b (hF.ev rfl) (fun c73 => ?_) (fun c73 => ?_)
 ·
  refine rg hF rfl fun a hF => ?_
  refine xr ?_
  refine ret1 rfl hF rfl ⟨congrArg Value.bool (Eq.symm ?_), hS.old⟩
  first | exact decide_eq_false (fun e => by subst e; first | exact c9 rfl | exact c15 rfl | exact c21 rfl | exact c26 rfl | exact c31 rfl | exact c36 rfl | exact c41 rfl | exact c46 rfl | exact c51 rfl | exact c56 rfl | exact c61 rfl | exact c67 rfl | exact c73 rfl | exact c79 rfl | exact c85 rfl | exact c91 rfl) | exact decide_eq_true (by cases x; cases y; simp only [Sl.Thread.mk.injEq]; exact ⟨c9, c15, c21, c26, c31, c36, c41, c46, c51, c56, c61, c67, c73, c79, c85, c91⟩)
 refine wp_skip <| hK38 _ _ <| wp_seq_k fun K41 hK41 => ws fun K42 hK42 => gb 3 1 hF hS rfl rfl rfl fun a hF => gb 1 0 hF hS rfl rfl rfl fun a hF => ckr hF hS rfl (eqEntryS_c (hS.rd r2) (hS.rd q2)) fun w7 a hS hF => ?_
 refine ge hK42 hF rfl fun a hF => ?_
 first | refine wc_dec (hF.ev rfl) (fun c79 => ?_) (fun c79 => ?_) | refine wc_ndec (hF.ev rfl) (fun c79 => ?_) (fun c79 => ?_) | refine wc_b (hF.ev rfl) (fun c79 => ?_) (fun c79 => ?_)
 ·
  refine rg hF rfl fun a hF => ?_
  refine xr ?_
  refine ret1 rfl hF rfl ⟨congrArg Value.bool (Eq.symm ?_), hS.old⟩
  first | exact decide_eq_false (fun e => by subst e; first | exact c9 rfl | exact c15 rfl | exact c21 rfl | exact c26 rfl | exact c31 rfl | exact c36 rfl | exact c41 rfl | exact c46 rfl | exact c51 rfl | exact c56 rfl | exact c61 rfl | exact c67 rfl | exact c73 rfl | exact c79 rfl | exact c85 rfl | exact c91 rfl) | exact decide_eq_true (by cases x; cases y; simp only [Sl.Thread.mk.injEq]; exact ⟨c9, c15, c21, c26, c31, c36, c41, c46, c51, c56, c61, c67, c73, c79, c85, c91⟩)
 refine wp_skip <| hK41 _ _ <| wp_seq_k fun K44 hK44 => ws fun K45 hK45 => gb 3 1 hF hS rfl rfl rfl fun a hF => gb 1 0 hF hS rfl rfl rfl fun a hF => ckr hF hS rfl (eqEntryS_c (hS.rd r3) (hS.rd q3)) fun w8 a hS hF => ?_
 refine ge hK45 hF rfl fun a hF => ?_
 first | refine wc_dec (hF.ev rfl) (fun c85 => ?_) (fun c85 => ?_) | refine wc_ndec (hF.ev rfl) (fun c85 => ?_) (fun c85 => ?_) | refine wc_b (hF.ev rfl) (fun c85 => ?_) (fun c85 => ?_)
 ·
  refine rg hF rfl fun a hF => ?_
  refine xr ?_
  refine ret1 rfl hF rfl ⟨congrArg Value.bool (Eq.symm ?_), hS.old⟩
  first | exact decide_eq_false (fun e => by subst e; first | exact c9 rfl | exact c15 rfl | exact c21 rfl | exact c26 rfl | exact c31 rfl | exact c36 rfl | exact c41 rfl | exact c46 rfl | exact c51 rfl | exact c56 rfl | exact c61 rfl | exact c67 rfl | exact c73 rfl | exact c79 rfl | exact c85 rfl | exact c91 rfl) | exact decide_eq_true (by cases x; cases y; simp only [Sl.Thread.mk.injEq]; exact ⟨c9, c15, c21, c26, c31, c36, c41, c46, c51, c56, c61, c67, c73, c79, c85, c91⟩)
 refine wp_skip <| hK44 _ _ <| wp_seq_k fun K47 hK47 => ws fun K48 hK48 => gb 3 1 hF hS rfl rfl rfl fun a hF => gb 1 0 hF hS rfl rfl rfl fun a hF => ckr hF hS rfl (eqIntS_c (hS.rd r4) (hS.rd q4)) fun w9 a hS hF => ?_
 refine ge hK48 hF rfl fun a hF => ?_
 first | refine wc_dec (hF.ev rfl) (fun c91 => ?_) (fun c91 => ?_) | refine wc_ndec (hF.ev rfl) (fun c91 => ?_) (fun c91 => ?_) | refine wc_b (hF.ev rfl) (fun c91 => ?_) (fun c91 => ?_)
 ·
  refine rg hF rfl fun a hF => ?_
  refine xr ?_
  refine ret1 rfl hF rfl ⟨congrArg Value.bool (Eq.symm ?_), hS.old⟩
  first | exact decide_eq_false (fun e => by subst e; first | exact c9 rfl | exact c15 rfl | exact c21 rfl | exact c26 rfl | exact c31 rfl | exact c36 rfl | exact c41 rfl | exact c46 rfl | exact c51 rfl | exact c56 rfl | exact c61 rfl | exact c67 rfl | exact c73 rfl | exact c79 rfl | exact c85 rfl | exact c91 rfl) | exact decide_eq_true (by cases x; cases y; simp only [Sl.Thread.mk.injEq]; exact ⟨c9, c15, c21, c26, c31, c36, c41, c46, c51, c56, c61, c67, c73, c79, c85, c91⟩)
 refine wp_skip <| hK47 _ _ <| rg hF rfl fun a hF => ?_
 refine xr ?_
 refine ret1 rfl hF rfl ⟨congrArg Value.bool (Eq.symm ?_), hS.old⟩
 first | exact decide_eq_false (fun e => by subst e; first | exact c9 rfl | exact c15 rfl | exact c21 rfl | exact c26 rfl | exact c31 rfl | exact c36 rfl | exact c41 rfl | exact c46 rfl | exact c51 rfl | exact c56 rfl | exact c61 rfl | exact c67 rfl | exact c73 rfl | exact c79 rfl | exact c85 rfl | exact c91 rfl) | exact decide_eq_true (by cases x; cases y; simp only [Sl.Thread.mk.injEq]; exact ⟨c9, c15, c21, c26, c31, c36, c41, c46, c51, c56, c61, c67, c73, c79, c85, c91⟩)
set_option maxRecDepth 20000
/-- what IsOp asks -/
def _root_.Go.Proofs.YtbgacfdnmbhloaaGreatDoor.Sl.Op.ok (o : Sl.Op) : Prop := ((o.kind = 1 ∨ o.kind = 4 ∨ o.kind = 5) ∧ o.key = 0 ∧ o.value = 0) ∨ (o.kind = 2 ∧ (0 ≤ o.key ∧ o.key ≤ 9) ∧ o.value = 0) ∨ (o.kind = 3 ∧ (0 ≤ o.key ∧ o.key ≤ 9) ∧ (0 ≤ o.value ∧ o.value ≤ 99))
instance (o : Sl.Op) : Decidable o.ok := by unfold Sl.Op.ok; infer_instance
def cellCount (c : Config) : Int := if c.ok then 2 + 3 * c.threads + c.keys + 3 * c.capacity else 0
def headCell (c : Config) (k : Int) : Int := if c.ok ∧ (0 ≤ k ∧ k ≤ c.keys - 1) then 2 + 3 * c.threads + k else -1
def nodeCell (c : Config) (i f : Int) : Int := if c.ok ∧ (0 ≤ i ∧ i ≤ c.capacity - 1) ∧ (0 ≤ f ∧ f ≤ 2) then 2 + 3 * c.threads + c.keys + 3 * i + f else -1
def isEntry (e : Entry) : Bool := isHandle e.handle && !isMarked e.handle && decide (0 ≤ e.key ∧ e.key ≤ 9) && decide (1 ≤ e.low ∧ e.low ≤ e.high) && decide (e.high ≤ 99)
def pcs : List Int := [0, 1, 2, 3, 4, 5, 10, 11, 12, 13, 14, 15, 16, 17, 18, 19, 20, 21, 30, 31, 32, 33, 34, 35, 36, 37, 38, 39, 40, 41, 42, 43, 44, 45, 46, 47, 50, 60, 61, 62, 63, 70, 80]
theorem wm1 {n : Int} (h0 : 0 ≤ n) (h1 : n ≤ 100) : IntKind.i64.wrap (n - 1) = n - 1 := w64_id (by omega) (by omega)
def pcNames : List ByteArray := [⟨#[105, 100, 108, 101]⟩, ⟨#[98, 101, 103, 105, 110, 32, 108, 111, 97, 100]⟩, ⟨#[98, 101, 103, 105, 110, 32, 97, 110, 110, 111, 117, 110, 99, 101]⟩, ⟨#[98, 101, 103, 105, 110, 32, 99, 104, 101, 99, 107]⟩, ⟨#[98, 101, 103, 105, 110, 32, 116, 105, 99, 107]⟩, ⟨#[98, 101, 103, 105, 110, 32, 99, 108, 101, 97, 114]⟩, ⟨#[119, 97, 108, 107, 32, 104, 101, 97, 100]⟩, ⟨#[119, 97, 108, 107, 32, 103, 117, 97, 114, 100]⟩, ⟨#[119, 97, 108, 107, 32, 99, 104, 101, 99, 107]⟩, ⟨#[119, 97, 108, 107, 32, 110, 101, 120, 116]⟩, ⟨#[119, 97, 108, 107, 32, 117, 110, 108, 105, 110, 107]⟩, ⟨#[119, 97, 108, 107, 32, 115, 104, 105, 102, 116]⟩, ⟨#[114, 101, 97, 100, 32, 115, 116, 97, 109, 112]⟩, ⟨#[114, 101, 97, 100, 32, 99, 108, 111, 99, 107]⟩, ⟨#[114, 101, 97, 100, 32, 104, 101, 108, 112]⟩, ⟨#[114, 101, 97, 100, 32, 118, 97, 108, 117, 101]⟩, ⟨#[114, 101, 97, 100, 32, 99, 108, 101, 97, 114]⟩, ⟨#[114, 101, 97, 100, 32, 100, 111, 110, 101]⟩, ⟨#[119, 114, 105, 116, 101, 32, 97, 114, 101, 110, 97]⟩, ⟨#[119, 114, 105, 116, 101, 32, 116, 97, 107, 101]⟩, ⟨#[119, 114, 105, 116, 101, 32, 118, 97, 108, 117, 101]⟩, ⟨#[119, 114, 105, 116, 101, 32, 114, 101, 115, 101, 116]⟩, ⟨#[119, 114, 105, 116, 101, 32, 103, 117, 97, 114, 100]⟩, ⟨#[119, 114, 105, 116, 101, 32, 104, 101, 97, 100]⟩, ⟨#[119, 114, 105, 116, 101, 32, 104, 97, 122, 97, 114, 100]⟩, ⟨#[119, 114, 105, 116, 101, 32, 99, 104, 101, 99, 107]⟩, ⟨#[119, 114, 105, 116, 101, 32, 115, 116, 97, 109, 112]⟩, ⟨#[119, 114, 105, 116, 101, 32, 99, 108, 111, 99, 107]⟩, ⟨#[119, 114, 105, 116, 101, 32, 104, 101, 108, 112]⟩, ⟨#[119, 114, 105, 116, 101, 32, 108, 105, 110, 107]⟩, ⟨#[119, 114, 105, 116, 101, 32, 112, 117, 98, 108, 105, 115, 104]⟩, ⟨#[119, 114, 105, 116, 101, 32, 111, 119, 110, 32, 99, 108, 111, 99, 107]⟩, ⟨#[119, 114, 105, 116, 101, 32, 111, 119, 110, 32, 115, 116, 97, 109, 112]⟩, ⟨#[119, 114, 105, 116, 101, 32, 114, 101, 116, 105, 114, 101]⟩, ⟨#[119, 114, 105, 116, 101, 32, 99, 108, 101, 97, 114]⟩, ⟨#[119, 114, 105, 116, 101, 32, 100, 111, 110, 101]⟩, ⟨#[115, 99, 97, 110, 32, 97, 110, 110, 111, 117, 110, 99, 101, 100]⟩, ⟨#[109, 97, 114, 107, 32, 108, 111, 97, 100]⟩, ⟨#[109, 97, 114, 107, 32, 115, 119, 97, 112]⟩, ⟨#[102, 108, 117, 115, 104, 32, 99, 108, 101, 97, 114]⟩, ⟨#[102, 108, 117, 115, 104, 32, 100, 111, 110, 101]⟩, ⟨#[115, 99, 97, 110, 32, 104, 97, 122, 97, 114, 100, 115]⟩, ⟨#[101, 110, 100, 32, 99, 108, 101, 97, 114]⟩]
theorem pcNames_ne {s : ByteArray} (h : s ∈ pcNames) : (s.data.toList == []) = false := by
 have : ∀ s ∈ pcNames, (s.data.toList == []) = false := by decide
 exact this s h
section
variable {α : Type} {xs : List α} {p : α → Bool} {x : α} {k : Nat}
theorem any_next (h : (xs.take k).any p = false) (hx : xs[k]? = some x) (hp : p x = false) : (xs.take (k + 1)).any p = false := by
 rw [List.take_add_one, hx, List.any_append, h]; simp [hp]
theorem any_at (hx : xs[k]? = some x) (hp : p x = true) : xs.any p = true := List.any_eq_true.2 ⟨x, List.mem_of_getElem? hx, hp⟩
theorem any_all (h : (xs.take k).any p = false) (hk : k ≤ xs.length) (h1 : ¬ (k : Int) < xs.length) : xs.any p = false := by
 have : k = xs.length := by omega
 subst this
 rwa [List.take_length] at h
end
theorem l1In_c {W : World} (x lo hi : Int) : Calls Tryz.prog 30 #[vi x, vi lo, vi hi] W (Ret fun v w' => v = .bool (decide (lo ≤ x ∧ x ≤ hi)) ∧ Below W.heap.size W w') := by
 refine cfr Tryz.func30 Tryz.ntmps30 fun a hF => ?_
 have hS := Sep.refl W
 refine rg hF rfl fun a hF => ws fun K2 hK2 => ga 4 hF rfl fun a hF => ?_
 revert hF; intro hF0; refine bsplit (t := 10) hF0 rfl (fun b10 hF => ?_) (fun b10 hF => ?_)
 ·
  clear hF0
  try simp only [decide_eq_true_eq, decide_eq_false_iff_not, Bool.not_eq_true', Bool.not_eq_false'] at b10
  refine ge hK2 hF rfl fun a hF => ?_
  refine xr ?_
  refine ret1 rfl hF rfl ⟨?_, hS.old⟩
  first | exact congrArg Value.bool (decide_eq_decide.2 (by omega)) | exact (congrArg Value.bool (decide_eq_false (by omega))).symm | exact (congrArg Value.bool (decide_eq_true (by omega))).symm
 clear hF0
 try simp only [decide_eq_true_eq, decide_eq_false_iff_not, Bool.not_eq_true', Bool.not_eq_false'] at b10
 refine ge hK2 hF rfl fun a hF => ?_
 refine xr ?_
 refine ret1 rfl hF rfl ⟨?_, hS.old⟩
 first | exact congrArg Value.bool (decide_eq_decide.2 (by omega)) | exact (congrArg Value.bool (decide_eq_false (by omega))).symm | exact (congrArg Value.bool (decide_eq_true (by omega))).symm
theorem in_c {W : World} (x lo hi : Int) : Calls Tryz.prog 41 #[vi x, vi lo, vi hi] W (Ret fun v w' => v = .bool (decide (lo ≤ x ∧ x ≤ hi)) ∧ Below W.heap.size W w') := by
 refine cfr Tryz.func41 Tryz.ntmps41 fun a hF => ?_
 have hS := Sep.refl W
 refine rg hF rfl fun a hF => ws fun K2 hK2 => ga 4 hF rfl fun a hF => ?_
 revert hF; intro hF0; refine bsplit (t := 10) hF0 rfl (fun b10 hF => ?_) (fun b10 hF => ?_)
 ·
  clear hF0
  try simp only [decide_eq_true_eq, decide_eq_false_iff_not, Bool.not_eq_true', Bool.not_eq_false'] at b10
  refine ge hK2 hF rfl fun a hF => ?_
  refine xr ?_
  refine ret1 rfl hF rfl ⟨?_, hS.old⟩
  first | exact congrArg Value.bool (decide_eq_decide.2 (by omega)) | exact (congrArg Value.bool (decide_eq_false (by omega))).symm | exact (congrArg Value.bool (decide_eq_true (by omega))).symm
 clear hF0
 try simp only [decide_eq_true_eq, decide_eq_false_iff_not, Bool.not_eq_true', Bool.not_eq_false'] at b10
 refine ge hK2 hF rfl fun a hF => ?_
 refine xr ?_
 refine ret1 rfl hF rfl ⟨?_, hS.old⟩
 first | exact congrArg Value.bool (decide_eq_decide.2 (by omega)) | exact (congrArg Value.bool (decide_eq_false (by omega))).symm | exact (congrArg Value.bool (decide_eq_true (by omega))).symm
theorem specIsConfig_c {W : World} (c : Config) : Calls Tryz.prog 28 #[.agg c.enc.toArray] W (Ret fun v w' => v = .bool (decide c.ok) ∧ Below W.heap.size W w') := by
 refine cfr Tryz.func28 Tryz.ntmps28 fun a hF => ?_
 have hS := Sep.refl W
 refine ws fun K1 hK1 => wl_box (cs := [_, _, _, _, _, _]) hF hS rfl (hF.ev rfl) rfl fun g1 w1 a hS _ hF => ge hK1 hF rfl fun a hF => ws fun K2 hK2 => gb 2 0 hF hS rfl rfl rfl fun a hF => ckr hF hS rfl (l1In_c _ _ _) fun w2 a hS hF => ga 1 hF rfl fun a hF => ?_
 revert hF; intro hF0; refine bsplit (t := 6) hF0 rfl (fun b6 hF => ?_) (fun b6 hF => ?_)
 ·
  clear hF0
  try simp only [decide_eq_true_eq, decide_eq_false_iff_not, Bool.not_eq_true', Bool.not_eq_false'] at b6
  refine gb 2 0 hF hS rfl rfl rfl fun a hF => ckr hF hS rfl (l1In_c _ _ _) fun w3 a hS hF => ga 2 hF rfl fun a hF => ?_
  revert hF; intro hF0; refine bsplit (t := 11) hF0 rfl (fun b11 hF => ?_) (fun b11 hF => ?_)
  ·
   clear hF0
   try simp only [decide_eq_true_eq, decide_eq_false_iff_not, Bool.not_eq_true', Bool.not_eq_false'] at b11
   refine gb 2 0 hF hS rfl rfl rfl fun a hF => ckr hF hS rfl (l1In_c _ _ _) fun w4 a hS hF => ga 2 hF rfl fun a hF => ?_
   revert hF; intro hF0; refine bsplit (t := 16) hF0 rfl (fun b16 hF => ?_) (fun b16 hF => ?_)
   ·
    clear hF0
    try simp only [decide_eq_true_eq, decide_eq_false_iff_not, Bool.not_eq_true', Bool.not_eq_false'] at b16
    refine gb 2 0 hF hS rfl rfl rfl fun a hF => ckr hF hS rfl (l1In_c _ _ _) fun w5 a hS hF => ga 2 hF rfl fun a hF => ?_
    revert hF; intro hF0; refine bsplit (t := 21) hF0 rfl (fun b21 hF => ?_) (fun b21 hF => ?_)
    ·
     clear hF0
     try simp only [decide_eq_true_eq, decide_eq_false_iff_not, Bool.not_eq_true', Bool.not_eq_false'] at b21
     refine gb 2 0 hF hS rfl rfl rfl fun a hF => ckr hF hS rfl (l1In_c _ _ _) fun w6 a hS hF => ga 2 hF rfl fun a hF => ?_
     revert hF; intro hF0; refine bsplit (t := 26) hF0 rfl (fun b26 hF => ?_) (fun b26 hF => ?_)
     ·
      clear hF0
      try simp only [decide_eq_true_eq, decide_eq_false_iff_not, Bool.not_eq_true', Bool.not_eq_false'] at b26
      refine gb 2 0 hF hS rfl rfl rfl fun a hF => ckr hF hS rfl (l1In_c _ _ _) fun w7 a hS hF => ge hK2 hF rfl fun a hF => ?_
      refine xr ?_
      refine ret1 rfl hF rfl ⟨?_, hS.old⟩
      first | exact congrArg Value.bool (decide_eq_decide.2 (by unfold Config.ok; omega)) | exact (congrArg Value.bool (decide_eq_false (by unfold Config.ok; omega))).symm | exact (congrArg Value.bool (decide_eq_true (by unfold Config.ok; omega))).symm
     clear hF0
     try simp only [decide_eq_true_eq, decide_eq_false_iff_not, Bool.not_eq_true', Bool.not_eq_false'] at b26
     refine ge hK2 hF rfl fun a hF => ?_
     refine xr ?_
     refine ret1 rfl hF rfl ⟨?_, hS.old⟩
     first | exact congrArg Value.bool (decide_eq_decide.2 (by unfold Config.ok; omega)) | exact (congrArg Value.bool (decide_eq_false (by unfold Config.ok; omega))).symm | exact (congrArg Value.bool (decide_eq_true (by unfold Config.ok; omega))).symm
    clear hF0
    try simp only [decide_eq_true_eq, decide_eq_false_iff_not, Bool.not_eq_true', Bool.not_eq_false'] at b21
    refine ge hK2 hF rfl fun a hF => ?_
    refine xr ?_
    refine ret1 rfl hF rfl ⟨?_, hS.old⟩
    first | exact congrArg Value.bool (decide_eq_decide.2 (by unfold Config.ok; omega)) | exact (congrArg Value.bool (decide_eq_false (by unfold Config.ok; omega))).symm | exact (congrArg Value.bool (decide_eq_true (by unfold Config.ok; omega))).symm
   clear hF0
   try simp only [decide_eq_true_eq, decide_eq_false_iff_not, Bool.not_eq_true', Bool.not_eq_false'] at b16
   refine ge hK2 hF rfl fun a hF => ?_
   refine xr ?_
   refine ret1 rfl hF rfl ⟨?_, hS.old⟩
   first | exact congrArg Value.bool (decide_eq_decide.2 (by unfold Config.ok; omega)) | exact (congrArg Value.bool (decide_eq_false (by unfold Config.ok; omega))).symm | exact (congrArg Value.bool (decide_eq_true (by unfold Config.ok; omega))).symm
  clear hF0
  try simp only [decide_eq_true_eq, decide_eq_false_iff_not, Bool.not_eq_true', Bool.not_eq_false'] at b11
  refine ge hK2 hF rfl fun a hF => ?_
  refine xr ?_
  refine ret1 rfl hF rfl ⟨?_, hS.old⟩
  first | exact congrArg Value.bool (decide_eq_decide.2 (by unfold Config.ok; omega)) | exact (congrArg Value.bool (decide_eq_false (by unfold Config.ok; omega))).symm | exact (congrArg Value.bool (decide_eq_true (by unfold Config.ok; omega))).symm
 clear hF0
 try simp only [decide_eq_true_eq, decide_eq_false_iff_not, Bool.not_eq_true', Bool.not_eq_false'] at b6
 refine ge hK2 hF rfl fun a hF => ?_
 refine xr ?_
 refine ret1 rfl hF rfl ⟨?_, hS.old⟩
 first | exact congrArg Value.bool (decide_eq_decide.2 (by unfold Config.ok; omega)) | exact (congrArg Value.bool (decide_eq_false (by unfold Config.ok; omega))).symm | exact (congrArg Value.bool (decide_eq_true (by unfold Config.ok; omega))).symm
theorem implIsConfig_c {W : World} (c : Config) : Calls Tryz.prog 39 #[.agg c.enc.toArray] W (Ret fun v w' => v = .bool (decide c.ok) ∧ Below W.heap.size W w') := by
 refine cfr Tryz.func39 Tryz.ntmps39 fun a hF => ?_
 have hS := Sep.refl W
 refine ws fun K1 hK1 => wl_box (cs := [_, _, _, _, _, _]) hF hS rfl (hF.ev rfl) rfl fun g1 w1 a hS _ hF => ge hK1 hF rfl fun a hF => ws fun K2 hK2 => gb 2 0 hF hS rfl rfl rfl fun a hF => ckr hF hS rfl (in_c _ _ _) fun w2 a hS hF => ga 1 hF rfl fun a hF => ?_
 revert hF; intro hF0; refine bsplit (t := 6) hF0 rfl (fun b6 hF => ?_) (fun b6 hF => ?_)
 ·
  clear hF0
  try simp only [decide_eq_true_eq, decide_eq_false_iff_not, Bool.not_eq_true', Bool.not_eq_false'] at b6
  refine gb 2 0 hF hS rfl rfl rfl fun a hF => ckr hF hS rfl (in_c _ _ _) fun w3 a hS hF => ga 2 hF rfl fun a hF => ?_
  revert hF; intro hF0; refine bsplit (t := 11) hF0 rfl (fun b11 hF => ?_) (fun b11 hF => ?_)
  ·
   clear hF0
   try simp only [decide_eq_true_eq, decide_eq_false_iff_not, Bool.not_eq_true', Bool.not_eq_false'] at b11
   refine gb 2 0 hF hS rfl rfl rfl fun a hF => ckr hF hS rfl (in_c _ _ _) fun w4 a hS hF => ga 2 hF rfl fun a hF => ?_
   revert hF; intro hF0; refine bsplit (t := 16) hF0 rfl (fun b16 hF => ?_) (fun b16 hF => ?_)
   ·
    clear hF0
    try simp only [decide_eq_true_eq, decide_eq_false_iff_not, Bool.not_eq_true', Bool.not_eq_false'] at b16
    refine gb 2 0 hF hS rfl rfl rfl fun a hF => ckr hF hS rfl (in_c _ _ _) fun w5 a hS hF => ga 2 hF rfl fun a hF => ?_
    revert hF; intro hF0; refine bsplit (t := 21) hF0 rfl (fun b21 hF => ?_) (fun b21 hF => ?_)
    ·
     clear hF0
     try simp only [decide_eq_true_eq, decide_eq_false_iff_not, Bool.not_eq_true', Bool.not_eq_false'] at b21
     refine gb 2 0 hF hS rfl rfl rfl fun a hF => ckr hF hS rfl (in_c _ _ _) fun w6 a hS hF => ga 2 hF rfl fun a hF => ?_
     revert hF; intro hF0; refine bsplit (t := 26) hF0 rfl (fun b26 hF => ?_) (fun b26 hF => ?_)
     ·
      clear hF0
      try simp only [decide_eq_true_eq, decide_eq_false_iff_not, Bool.not_eq_true', Bool.not_eq_false'] at b26
      refine gb 2 0 hF hS rfl rfl rfl fun a hF => ckr hF hS rfl (in_c _ _ _) fun w7 a hS hF => ge hK2 hF rfl fun a hF => ?_
      refine xr ?_
      refine ret1 rfl hF rfl ⟨?_, hS.old⟩
      first | exact congrArg Value.bool (decide_eq_decide.2 (by unfold Config.ok; omega)) | exact (congrArg Value.bool (decide_eq_false (by unfold Config.ok; omega))).symm | exact (congrArg Value.bool (decide_eq_true (by unfold Config.ok; omega))).symm
     clear hF0
     try simp only [decide_eq_true_eq, decide_eq_false_iff_not, Bool.not_eq_true', Bool.not_eq_false'] at b26
     refine ge hK2 hF rfl fun a hF => ?_
     refine xr ?_
     refine ret1 rfl hF rfl ⟨?_, hS.old⟩
     first | exact congrArg Value.bool (decide_eq_decide.2 (by unfold Config.ok; omega)) | exact (congrArg Value.bool (decide_eq_false (by unfold Config.ok; omega))).symm | exact (congrArg Value.bool (decide_eq_true (by unfold Config.ok; omega))).symm
    clear hF0
    try simp only [decide_eq_true_eq, decide_eq_false_iff_not, Bool.not_eq_true', Bool.not_eq_false'] at b21
    refine ge hK2 hF rfl fun a hF => ?_
    refine xr ?_
    refine ret1 rfl hF rfl ⟨?_, hS.old⟩
    first | exact congrArg Value.bool (decide_eq_decide.2 (by unfold Config.ok; omega)) | exact (congrArg Value.bool (decide_eq_false (by unfold Config.ok; omega))).symm | exact (congrArg Value.bool (decide_eq_true (by unfold Config.ok; omega))).symm
   clear hF0
   try simp only [decide_eq_true_eq, decide_eq_false_iff_not, Bool.not_eq_true', Bool.not_eq_false'] at b16
   refine ge hK2 hF rfl fun a hF => ?_
   refine xr ?_
   refine ret1 rfl hF rfl ⟨?_, hS.old⟩
   first | exact congrArg Value.bool (decide_eq_decide.2 (by unfold Config.ok; omega)) | exact (congrArg Value.bool (decide_eq_false (by unfold Config.ok; omega))).symm | exact (congrArg Value.bool (decide_eq_true (by unfold Config.ok; omega))).symm
  clear hF0
  try simp only [decide_eq_true_eq, decide_eq_false_iff_not, Bool.not_eq_true', Bool.not_eq_false'] at b11
  refine ge hK2 hF rfl fun a hF => ?_
  refine xr ?_
  refine ret1 rfl hF rfl ⟨?_, hS.old⟩
  first | exact congrArg Value.bool (decide_eq_decide.2 (by unfold Config.ok; omega)) | exact (congrArg Value.bool (decide_eq_false (by unfold Config.ok; omega))).symm | exact (congrArg Value.bool (decide_eq_true (by unfold Config.ok; omega))).symm
 clear hF0
 try simp only [decide_eq_true_eq, decide_eq_false_iff_not, Bool.not_eq_true', Bool.not_eq_false'] at b6
 refine ge hK2 hF rfl fun a hF => ?_
 refine xr ?_
 refine ret1 rfl hF rfl ⟨?_, hS.old⟩
 first | exact congrArg Value.bool (decide_eq_decide.2 (by unfold Config.ok; omega)) | exact (congrArg Value.bool (decide_eq_false (by unfold Config.ok; omega))).symm | exact (congrArg Value.bool (decide_eq_true (by unfold Config.ok; omega))).symm
theorem specIsOp_c {W : World} (o : Sl.Op) : Calls Tryz.prog 61 #[.agg o.enc.toArray] W (Ret fun v w' => v = .bool (decide o.ok) ∧ Below W.heap.size W w') := by
 refine cfr Tryz.func61 Tryz.ntmps61 fun a hF => ?_
 have hS := Sep.refl W
 refine ws fun K1 hK1 => wl_box (cs := [_, _, _]) hF hS rfl (hF.ev rfl) rfl fun g1 w1 a hS _ hF => ge hK1 hF rfl fun a hF => wp_seq_k fun K2 hK2 => rh 0 hF hS rfl rfl rfl fun a hF => wp_block <| wp_seq_k fun K4 hK4 => ?_
 refine rg hF rfl fun a hF => cx 5 hF rfl (fun c5 hF => ?_) fun c5 hF => ?_
 ·
  refine wp_skip <| hK4 _ _ <| wc_true (hF.ev rfl) <| ws fun K6 hK6 => gb 4 0 hF hS rfl rfl rfl fun a hF => ?_
  apply wa 4 12 16 hF hS
  ·
   intro hg12 a hF
   exact jf 4 0 hF hS rfl rfl rfl rfl rfl rfl
  intro a w2 hF hS
  refine ge hK6 hF rfl fun a hF => ?_
  refine xr ?_
  refine ret1 rfl hF rfl ⟨congrArg Value.bool (Bool.eq_iff_iff.2 ?_), hS.old⟩
  simp only [Bool.false_eq_true, Bool.true_eq_false, Bool.and_eq_true, Bool.or_eq_true, Bool.not_eq_true', decide_eq_true_eq, decide_eq_false_iff_not, iff_true, true_iff, false_iff, iff_false]
  unfold Sl.Op.ok
  omega
 refine rg hF rfl fun a hF => cx 5 hF rfl (fun c5 hF => ?_) fun c5 hF => ?_
 ·
  refine wp_skip <| hK4 _ _ <| wc_true (hF.ev rfl) <| ws fun K8 hK8 => gb 4 0 hF hS rfl rfl rfl fun a hF => ?_
  apply wa 4 12 16 hF hS
  ·
   intro hg12 a hF
   exact jf 4 0 hF hS rfl rfl rfl rfl rfl rfl
  intro a w3 hF hS
  refine ge hK8 hF rfl fun a hF => ?_
  refine xr ?_
  refine ret1 rfl hF rfl ⟨congrArg Value.bool (Bool.eq_iff_iff.2 ?_), hS.old⟩
  simp only [Bool.false_eq_true, Bool.true_eq_false, Bool.and_eq_true, Bool.or_eq_true, Bool.not_eq_true', decide_eq_true_eq, decide_eq_false_iff_not, iff_true, true_iff, false_iff, iff_false]
  unfold Sl.Op.ok
  omega
 refine wp_region_lit <| ge hK4 hF rfl fun a hF => cx 5 hF rfl (fun c5 hF => ?_) fun c5 hF => ?_
 ·
  refine ws fun K9 hK9 => gb 4 0 hF hS rfl rfl rfl fun a hF => ?_
  apply wa 4 12 16 hF hS
  ·
   intro hg12 a hF
   exact jf 4 0 hF hS rfl rfl rfl rfl rfl rfl
  intro a w4 hF hS
  refine ge hK9 hF rfl fun a hF => ?_
  refine xr ?_
  refine ret1 rfl hF rfl ⟨congrArg Value.bool (Bool.eq_iff_iff.2 ?_), hS.old⟩
  simp only [Bool.false_eq_true, Bool.true_eq_false, Bool.and_eq_true, Bool.or_eq_true, Bool.not_eq_true', decide_eq_true_eq, decide_eq_false_iff_not, iff_true, true_iff, false_iff, iff_false]
  unfold Sl.Op.ok
  omega
 refine rg hF rfl fun a hF => cx 17 hF rfl (fun c17 hF => ?_) fun c17 hF => ?_
 ·
  refine ws fun K11 hK11 => gb 2 0 hF hS rfl rfl rfl fun a hF => ckr hF hS rfl (l1In_c _ _ _) fun w5 a hS hF => ga 1 hF rfl fun a hF => ?_
  apply wa 4 22 26 hF hS
  ·
   intro hg22 a hF
   exact jf 4 0 hF hS rfl rfl rfl rfl rfl rfl
  intro a w6 hF hS
  refine ge hK11 hF rfl fun a hF => ?_
  refine xr ?_
  refine ret1 rfl hF rfl ⟨congrArg Value.bool (Bool.eq_iff_iff.2 ?_), hS.old⟩
  simp only [Bool.false_eq_true, Bool.true_eq_false, Bool.and_eq_true, Bool.or_eq_true, Bool.not_eq_true', decide_eq_true_eq, decide_eq_false_iff_not, iff_true, true_iff, false_iff, iff_false]
  unfold Sl.Op.ok
  omega
 refine rg hF rfl fun a hF => cx 27 hF rfl (fun c27 hF => ?_) fun c27 hF => ?_
 ·
  refine ws fun K13 hK13 => gb 2 0 hF hS rfl rfl rfl fun a hF => ckr hF hS rfl (l1In_c _ _ _) fun w7 a hS hF => ga 1 hF rfl fun a hF => ?_
  apply wa 4 32 36 hF hS
  ·
   intro hg32 a hF
   refine gb 2 0 hF hS rfl rfl rfl fun a hF => ckr hF hS rfl (l1In_c _ _ _) fun w8 a hS hF => ?_
   exact je 4 hF hS rfl rfl rfl rfl
  intro a w9 hF hS
  refine ge hK13 hF rfl fun a hF => ?_
  refine xr ?_
  refine ret1 rfl hF rfl ⟨congrArg Value.bool (Bool.eq_iff_iff.2 ?_), hS.old⟩
  simp only [Bool.false_eq_true, Bool.true_eq_false, Bool.and_eq_true, Bool.or_eq_true, Bool.not_eq_true', decide_eq_true_eq, decide_eq_false_iff_not, iff_true, true_iff, false_iff, iff_false]
  unfold Sl.Op.ok
  omega
 refine wp_skip ?_
 refine xt ?_
 refine hK2 _ _ <| rg hF rfl fun a hF => ?_
 refine xr ?_
 refine ret1 rfl hF rfl ⟨congrArg Value.bool (Bool.eq_iff_iff.2 ?_), hS.old⟩
 simp only [Bool.false_eq_true, Bool.true_eq_false, Bool.and_eq_true, Bool.or_eq_true, Bool.not_eq_true', decide_eq_true_eq, decide_eq_false_iff_not, iff_true, true_iff, false_iff, iff_false]
 unfold Sl.Op.ok
 omega
theorem implIsOp_c {W : World} (o : Sl.Op) : Calls Tryz.prog 72 #[.agg o.enc.toArray] W (Ret fun v w' => v = .bool (decide o.ok) ∧ Below W.heap.size W w') := by
 refine cfr Tryz.func72 Tryz.ntmps72 fun a hF => ?_
 have hS := Sep.refl W
 refine ws fun K1 hK1 => wl_box (cs := [_, _, _]) hF hS rfl (hF.ev rfl) rfl fun g1 w1 a hS _ hF => ge hK1 hF rfl fun a hF => wp_seq_k fun K2 hK2 => rh 0 hF hS rfl rfl rfl fun a hF => wp_block <| wp_seq_k fun K4 hK4 => ?_
 refine rg hF rfl fun a hF => cx 5 hF rfl (fun c5 hF => ?_) fun c5 hF => ?_
 ·
  refine wp_skip <| hK4 _ _ <| wc_true (hF.ev rfl) <| ws fun K6 hK6 => gb 4 0 hF hS rfl rfl rfl fun a hF => ?_
  apply wa 4 12 16 hF hS
  ·
   intro hg12 a hF
   exact jf 4 0 hF hS rfl rfl rfl rfl rfl rfl
  intro a w2 hF hS
  refine ge hK6 hF rfl fun a hF => ?_
  refine xr ?_
  refine ret1 rfl hF rfl ⟨congrArg Value.bool (Bool.eq_iff_iff.2 ?_), hS.old⟩
  simp only [Bool.false_eq_true, Bool.true_eq_false, Bool.and_eq_true, Bool.or_eq_true, Bool.not_eq_true', decide_eq_true_eq, decide_eq_false_iff_not, iff_true, true_iff, false_iff, iff_false]
  unfold Sl.Op.ok
  omega
 refine rg hF rfl fun a hF => cx 5 hF rfl (fun c5 hF => ?_) fun c5 hF => ?_
 ·
  refine wp_skip <| hK4 _ _ <| wc_true (hF.ev rfl) <| ws fun K8 hK8 => gb 4 0 hF hS rfl rfl rfl fun a hF => ?_
  apply wa 4 12 16 hF hS
  ·
   intro hg12 a hF
   exact jf 4 0 hF hS rfl rfl rfl rfl rfl rfl
  intro a w3 hF hS
  refine ge hK8 hF rfl fun a hF => ?_
  refine xr ?_
  refine ret1 rfl hF rfl ⟨congrArg Value.bool (Bool.eq_iff_iff.2 ?_), hS.old⟩
  simp only [Bool.false_eq_true, Bool.true_eq_false, Bool.and_eq_true, Bool.or_eq_true, Bool.not_eq_true', decide_eq_true_eq, decide_eq_false_iff_not, iff_true, true_iff, false_iff, iff_false]
  unfold Sl.Op.ok
  omega
 refine wp_region_lit <| ge hK4 hF rfl fun a hF => cx 5 hF rfl (fun c5 hF => ?_) fun c5 hF => ?_
 ·
  refine ws fun K9 hK9 => gb 4 0 hF hS rfl rfl rfl fun a hF => ?_
  apply wa 4 12 16 hF hS
  ·
   intro hg12 a hF
   exact jf 4 0 hF hS rfl rfl rfl rfl rfl rfl
  intro a w4 hF hS
  refine ge hK9 hF rfl fun a hF => ?_
  refine xr ?_
  refine ret1 rfl hF rfl ⟨congrArg Value.bool (Bool.eq_iff_iff.2 ?_), hS.old⟩
  simp only [Bool.false_eq_true, Bool.true_eq_false, Bool.and_eq_true, Bool.or_eq_true, Bool.not_eq_true', decide_eq_true_eq, decide_eq_false_iff_not, iff_true, true_iff, false_iff, iff_false]
  unfold Sl.Op.ok
  omega
 refine rg hF rfl fun a hF => cx 17 hF rfl (fun c17 hF => ?_) fun c17 hF => ?_
 ·
  refine ws fun K11 hK11 => gb 2 0 hF hS rfl rfl rfl fun a hF => ckr hF hS rfl (in_c _ _ _) fun w5 a hS hF => ga 1 hF rfl fun a hF => ?_
  apply wa 4 22 26 hF hS
  ·
   intro hg22 a hF
   exact jf 4 0 hF hS rfl rfl rfl rfl rfl rfl
  intro a w6 hF hS
  refine ge hK11 hF rfl fun a hF => ?_
  refine xr ?_
  refine ret1 rfl hF rfl ⟨congrArg Value.bool (Bool.eq_iff_iff.2 ?_), hS.old⟩
  simp only [Bool.false_eq_true, Bool.true_eq_false, Bool.and_eq_true, Bool.or_eq_true, Bool.not_eq_true', decide_eq_true_eq, decide_eq_false_iff_not, iff_true, true_iff, false_iff, iff_false]
  unfold Sl.Op.ok
  omega
 refine rg hF rfl fun a hF => cx 27 hF rfl (fun c27 hF => ?_) fun c27 hF => ?_
 ·
  refine ws fun K13 hK13 => gb 2 0 hF hS rfl rfl rfl fun a hF => ckr hF hS rfl (in_c _ _ _) fun w7 a hS hF => ga 1 hF rfl fun a hF => ?_
  apply wa 4 32 36 hF hS
  ·
   intro hg32 a hF
   refine gb 2 0 hF hS rfl rfl rfl fun a hF => ckr hF hS rfl (in_c _ _ _) fun w8 a hS hF => ?_
   exact je 4 hF hS rfl rfl rfl rfl
  intro a w9 hF hS
  refine ge hK13 hF rfl fun a hF => ?_
  refine xr ?_
  refine ret1 rfl hF rfl ⟨congrArg Value.bool (Bool.eq_iff_iff.2 ?_), hS.old⟩
  simp only [Bool.false_eq_true, Bool.true_eq_false, Bool.and_eq_true, Bool.or_eq_true, Bool.not_eq_true', decide_eq_true_eq, decide_eq_false_iff_not, iff_true, true_iff, false_iff, iff_false]
  unfold Sl.Op.ok
  omega
 refine wp_skip ?_
 refine xt ?_
 refine hK2 _ _ <| rg hF rfl fun a hF => ?_
 refine xr ?_
 refine ret1 rfl hF rfl ⟨congrArg Value.bool (Bool.eq_iff_iff.2 ?_), hS.old⟩
 simp only [Bool.false_eq_true, Bool.true_eq_false, Bool.and_eq_true, Bool.or_eq_true, Bool.not_eq_true', decide_eq_true_eq, decide_eq_false_iff_not, iff_true, true_iff, false_iff, iff_false]
 unfold Sl.Op.ok
 omega
theorem specCellCount_c {W : World} (c : Config)  : Calls Tryz.prog 29 #[.agg c.enc.toArray] W (Ret fun v w' => v = vi (cellCount c) ∧ Below W.heap.size W w') := by
 refine cfr Tryz.func29 Tryz.ntmps29 fun a hF => ?_
 have hS := Sep.refl W
 refine ws fun K1 hK1 => wl_box (cs := [_, _, _, _, _, _]) hF hS rfl (hF.ev rfl) rfl fun g1 w1 a hS _ hF => ge hK1 hF rfl fun a hF => wp_seq_k fun K2 hK2 => ws fun K3 hK3 => gb 1 0 hF hS rfl rfl rfl fun a hF => ckr hF hS rfl (specIsConfig_c _) fun w2 a hS hF => ?_
 refine ge hK3 hF rfl fun a hF => cx 5 hF rfl (fun c5 hF => ?_) fun c5 hF => ?_
 ·
  refine rg hF rfl fun a hF => ?_
  refine xr ?_
  refine ret1 rfl hF rfl ⟨congrArg vi ?_, hS.old⟩
  unfold cellCount
  have hw : c.ok → IntKind.i64.wrap (c.threads - 1) = c.threads - 1 ∧ IntKind.i64.wrap (c.keys - 1) = c.keys - 1 ∧ IntKind.i64.wrap (c.capacity - 1) = c.capacity - 1 := fun h => by unfold Config.ok at h; exact ⟨wm1 (by omega) (by omega), wm1 (by omega) (by omega), wm1 (by omega) (by omega)⟩
  split
  · rename_i hif
    first
    | (exfalso; have hw1 := hw (by simp_all); simp_all; done)
    | (have hok : c.ok := (by simp_all); unfold Config.ok at hok; clear hw; simp only [w64]; omega)
  · rename_i hif
    first | rfl | (exfalso; have hw1 := hw (by simp_all); simp_all; done)
 refine wp_skip <| hK2 _ _ <| rh 0 hF hS rfl rfl rfl fun a hF => ?_
 refine xr ?_
 refine ret1 rfl hF rfl ⟨congrArg vi ?_, hS.old⟩
 unfold cellCount
 have hw : c.ok → IntKind.i64.wrap (c.threads - 1) = c.threads - 1 ∧ IntKind.i64.wrap (c.keys - 1) = c.keys - 1 ∧ IntKind.i64.wrap (c.capacity - 1) = c.capacity - 1 := fun h => by unfold Config.ok at h; exact ⟨wm1 (by omega) (by omega), wm1 (by omega) (by omega), wm1 (by omega) (by omega)⟩
 split
 · rename_i hif
   first
   | (exfalso; have hw1 := hw (by simp_all); simp_all; done)
   | (have hok : c.ok := (by simp_all); unfold Config.ok at hok; clear hw; simp only [w64]; omega)
 · rename_i hif
   first | rfl | (exfalso; have hw1 := hw (by simp_all); simp_all; done)
theorem specHeadCell_c {W : World} (c : Config) (k : Int) : Calls Tryz.prog 32 #[.agg c.enc.toArray, vi k] W (Ret fun v w' => v = vi (headCell c k) ∧ Below W.heap.size W w') := by
 refine cfr Tryz.func32 Tryz.ntmps32 fun a hF => ?_
 have hS := Sep.refl W
 refine ws fun K1 hK1 => wl_box (cs := [_, _, _, _, _, _]) hF hS rfl (hF.ev rfl) rfl fun g1 w1 a hS _ hF => ge hK1 hF rfl fun a hF => wp_seq_k fun K2 hK2 => ws fun K3 hK3 => gb 1 0 hF hS rfl rfl rfl fun a hF => ckr hF hS rfl (specIsConfig_c _) fun w2 a hS hF => ?_
 refine ga 2 hF rfl fun a hF => ?_
 apply wo 7 8 15 hF hS
 ·
  intro hg8 a hF
  refine gb 4 0 hF hS rfl rfl rfl fun a hF => ckr hF hS rfl (l1In_c _ _ _) fun w3 a hS hF => ?_
  exact je 7 hF hS rfl rfl rfl rfl
 intro a w4 hF hS
 refine wl_nil <| hK3 _ _ <| cx 15 hF rfl (fun c15 hF => ?_) fun c15 hF => ?_
 ·
  refine rg hF rfl fun a hF => ?_
  refine xr ?_
  refine ret1 rfl hF rfl ⟨congrArg vi ?_, hS.old⟩
  unfold headCell
  have hw : c.ok → IntKind.i64.wrap (c.threads - 1) = c.threads - 1 ∧ IntKind.i64.wrap (c.keys - 1) = c.keys - 1 ∧ IntKind.i64.wrap (c.capacity - 1) = c.capacity - 1 := fun h => by unfold Config.ok at h; exact ⟨wm1 (by omega) (by omega), wm1 (by omega) (by omega), wm1 (by omega) (by omega)⟩
  split
  · rename_i hif
    first
    | (exfalso; have hw1 := hw (by simp_all); simp_all; done)
    | (have hok : c.ok := (by simp_all); unfold Config.ok at hok; clear hw; simp only [w64]; omega)
  · rename_i hif
    first | rfl | (exfalso; have hw1 := hw (by simp_all); simp_all; done)
 refine wp_skip <| hK2 _ _ <| rh 0 hF hS rfl rfl rfl fun a hF => ?_
 refine xr ?_
 refine ret1 rfl hF rfl ⟨congrArg vi ?_, hS.old⟩
 unfold headCell
 have hw : c.ok → IntKind.i64.wrap (c.threads - 1) = c.threads - 1 ∧ IntKind.i64.wrap (c.keys - 1) = c.keys - 1 ∧ IntKind.i64.wrap (c.capacity - 1) = c.capacity - 1 := fun h => by unfold Config.ok at h; exact ⟨wm1 (by omega) (by omega), wm1 (by omega) (by omega), wm1 (by omega) (by omega)⟩
 split
 · rename_i hif
   first
   | (exfalso; have hw1 := hw (by simp_all); simp_all; done)
   | (have hok : c.ok := (by simp_all); unfold Config.ok at hok; clear hw; simp only [w64]; omega)
 · rename_i hif
   first | rfl | (exfalso; have hw1 := hw (by simp_all); simp_all; done)
theorem specNodeCell_c {W : World} (c : Config) (i f : Int) : Calls Tryz.prog 35 #[.agg c.enc.toArray, vi i, vi f] W (Ret fun v w' => v = vi (nodeCell c i f) ∧ Below W.heap.size W w') := by
 refine cfr Tryz.func35 Tryz.ntmps35 fun a hF => ?_
 have hS := Sep.refl W
 refine ws fun K1 hK1 => wl_box (cs := [_, _, _, _, _, _]) hF hS rfl (hF.ev rfl) rfl fun g1 w1 a hS _ hF => ge hK1 hF rfl fun a hF => wp_seq_k fun K2 hK2 => ws fun K3 hK3 => gb 1 0 hF hS rfl rfl rfl fun a hF => ckr hF hS rfl (specIsConfig_c _) fun w2 a hS hF => ?_
 refine ga 2 hF rfl fun a hF => ?_
 apply wo 7 10 17 hF hS
 ·
  intro hg10 a hF
  refine gb 4 0 hF hS rfl rfl rfl fun a hF => ckr hF hS rfl (l1In_c _ _ _) fun w3 a hS hF => ?_
  exact je 7 hF hS rfl rfl rfl rfl
 intro a w4 hF hS
 refine ga 1 hF rfl fun a hF => ?_
 apply wo 4 18 22 hF hS
 ·
  intro hg18 a hF
  refine ga 1 hF rfl fun a hF => ckr hF hS rfl (l1In_c _ _ _) fun w5 a hS hF => ?_
  exact je 4 hF hS rfl rfl rfl rfl
 intro a w6 hF hS
 refine wl_nil <| hK3 _ _ <| cx 22 hF rfl (fun c22 hF => ?_) fun c22 hF => ?_
 ·
  refine rg hF rfl fun a hF => ?_
  refine xr ?_
  refine ret1 rfl hF rfl ⟨congrArg vi ?_, hS.old⟩
  unfold nodeCell
  have hw : c.ok → IntKind.i64.wrap (c.threads - 1) = c.threads - 1 ∧ IntKind.i64.wrap (c.keys - 1) = c.keys - 1 ∧ IntKind.i64.wrap (c.capacity - 1) = c.capacity - 1 := fun h => by unfold Config.ok at h; exact ⟨wm1 (by omega) (by omega), wm1 (by omega) (by omega), wm1 (by omega) (by omega)⟩
  split
  · rename_i hif
    first
    | (exfalso; have hw1 := hw (by simp_all); simp_all; done)
    | (have hok : c.ok := (by simp_all); unfold Config.ok at hok; clear hw; simp only [w64]; omega)
  · rename_i hif
    first | rfl | (exfalso; have hw1 := hw (by simp_all); simp_all; done)
 refine wp_skip <| hK2 _ _ <| rh 0 hF hS rfl rfl rfl fun a hF => ?_
 refine xr ?_
 refine ret1 rfl hF rfl ⟨congrArg vi ?_, hS.old⟩
 unfold nodeCell
 have hw : c.ok → IntKind.i64.wrap (c.threads - 1) = c.threads - 1 ∧ IntKind.i64.wrap (c.keys - 1) = c.keys - 1 ∧ IntKind.i64.wrap (c.capacity - 1) = c.capacity - 1 := fun h => by unfold Config.ok at h; exact ⟨wm1 (by omega) (by omega), wm1 (by omega) (by omega), wm1 (by omega) (by omega)⟩
 split
 · rename_i hif
   first
   | (exfalso; have hw1 := hw (by simp_all); simp_all; done)
   | (have hok : c.ok := (by simp_all); unfold Config.ok at hok; clear hw; simp only [w64]; omega)
 · rename_i hif
   first | rfl | (exfalso; have hw1 := hw (by simp_all); simp_all; done)
theorem specArenaCell_c {W : World}  : Calls Tryz.prog 36 #[] W (Ret fun v w' => v = vi 1 ∧ Below W.heap.size W w') := by
 refine cfr Tryz.func36 Tryz.ntmps36 fun a hF => ?_
 have hS := Sep.refl W
 refine rg hF rfl fun a hF => rg hF rfl fun a hF => ?_
 refine xr ?_
 exact ret1 rfl hF rfl ⟨rfl, hS.old⟩
theorem implCellCount_c {W : World} (c : Config)  : Calls Tryz.prog 40 #[.agg c.enc.toArray] W (Ret fun v w' => v = vi (cellCount c) ∧ Below W.heap.size W w') := by
 refine cfr Tryz.func40 Tryz.ntmps40 fun a hF => ?_
 have hS := Sep.refl W
 refine ws fun K1 hK1 => wl_box (cs := [_, _, _, _, _, _]) hF hS rfl (hF.ev rfl) rfl fun g1 w1 a hS _ hF => ge hK1 hF rfl fun a hF => wp_seq_k fun K2 hK2 => ws fun K3 hK3 => gb 1 0 hF hS rfl rfl rfl fun a hF => ckr hF hS rfl (implIsConfig_c _) fun w2 a hS hF => ?_
 refine ge hK3 hF rfl fun a hF => cx 5 hF rfl (fun c5 hF => ?_) fun c5 hF => ?_
 ·
  refine rg hF rfl fun a hF => ?_
  refine xr ?_
  refine ret1 rfl hF rfl ⟨congrArg vi ?_, hS.old⟩
  unfold cellCount
  have hw : c.ok → IntKind.i64.wrap (c.threads - 1) = c.threads - 1 ∧ IntKind.i64.wrap (c.keys - 1) = c.keys - 1 ∧ IntKind.i64.wrap (c.capacity - 1) = c.capacity - 1 := fun h => by unfold Config.ok at h; exact ⟨wm1 (by omega) (by omega), wm1 (by omega) (by omega), wm1 (by omega) (by omega)⟩
  split
  · rename_i hif
    first
    | (exfalso; have hw1 := hw (by simp_all); simp_all; done)
    | (have hok : c.ok := (by simp_all); unfold Config.ok at hok; clear hw; simp only [w64]; omega)
  · rename_i hif
    first | rfl | (exfalso; have hw1 := hw (by simp_all); simp_all; done)
 refine wp_skip <| hK2 _ _ <| rh 0 hF hS rfl rfl rfl fun a hF => ?_
 refine xr ?_
 refine ret1 rfl hF rfl ⟨congrArg vi ?_, hS.old⟩
 unfold cellCount
 have hw : c.ok → IntKind.i64.wrap (c.threads - 1) = c.threads - 1 ∧ IntKind.i64.wrap (c.keys - 1) = c.keys - 1 ∧ IntKind.i64.wrap (c.capacity - 1) = c.capacity - 1 := fun h => by unfold Config.ok at h; exact ⟨wm1 (by omega) (by omega), wm1 (by omega) (by omega), wm1 (by omega) (by omega)⟩
 split
 · rename_i hif
   first
   | (exfalso; have hw1 := hw (by simp_all); simp_all; done)
   | (have hok : c.ok := (by simp_all); unfold Config.ok at hok; clear hw; simp only [w64]; omega)
 · rename_i hif
   first | rfl | (exfalso; have hw1 := hw (by simp_all); simp_all; done)
theorem implHeadCell_c {W : World} (c : Config) (k : Int) : Calls Tryz.prog 44 #[.agg c.enc.toArray, vi k] W (Ret fun v w' => v = vi (headCell c k) ∧ Below W.heap.size W w') := by
 refine cfr Tryz.func44 Tryz.ntmps44 fun a hF => ?_
 have hS := Sep.refl W
 refine ws fun K1 hK1 => wl_box (cs := [_, _, _, _, _, _]) hF hS rfl (hF.ev rfl) rfl fun g1 w1 a hS _ hF => ge hK1 hF rfl fun a hF => wp_seq_k fun K2 hK2 => ws fun K3 hK3 => gb 1 0 hF hS rfl rfl rfl fun a hF => ckr hF hS rfl (implIsConfig_c _) fun w2 a hS hF => ?_
 refine ga 2 hF rfl fun a hF => ?_
 apply wo 7 8 15 hF hS
 ·
  intro hg8 a hF
  refine gb 4 0 hF hS rfl rfl rfl fun a hF => ckr hF hS rfl (in_c _ _ _) fun w3 a hS hF => ?_
  exact je 7 hF hS rfl rfl rfl rfl
 intro a w4 hF hS
 refine wl_nil <| hK3 _ _ <| cx 15 hF rfl (fun c15 hF => ?_) fun c15 hF => ?_
 ·
  refine rg hF rfl fun a hF => ?_
  refine xr ?_
  refine ret1 rfl hF rfl ⟨congrArg vi ?_, hS.old⟩
  unfold headCell
  have hw : c.ok → IntKind.i64.wrap (c.threads - 1) = c.threads - 1 ∧ IntKind.i64.wrap (c.keys - 1) = c.keys - 1 ∧ IntKind.i64.wrap (c.capacity - 1) = c.capacity - 1 := fun h => by unfold Config.ok at h; exact ⟨wm1 (by omega) (by omega), wm1 (by omega) (by omega), wm1 (by omega) (by omega)⟩
  split
  · rename_i hif
    first
    | (exfalso; have hw1 := hw (by simp_all); simp_all; done)
    | (have hok : c.ok := (by simp_all); unfold Config.ok at hok; clear hw; simp only [w64]; omega)
  · rename_i hif
    first | rfl | (exfalso; have hw1 := hw (by simp_all); simp_all; done)
 refine wp_skip <| hK2 _ _ <| rh 0 hF hS rfl rfl rfl fun a hF => ?_
 refine xr ?_
 refine ret1 rfl hF rfl ⟨congrArg vi ?_, hS.old⟩
 unfold headCell
 have hw : c.ok → IntKind.i64.wrap (c.threads - 1) = c.threads - 1 ∧ IntKind.i64.wrap (c.keys - 1) = c.keys - 1 ∧ IntKind.i64.wrap (c.capacity - 1) = c.capacity - 1 := fun h => by unfold Config.ok at h; exact ⟨wm1 (by omega) (by omega), wm1 (by omega) (by omega), wm1 (by omega) (by omega)⟩
 split
 · rename_i hif
   first
   | (exfalso; have hw1 := hw (by simp_all); simp_all; done)
   | (have hok : c.ok := (by simp_all); unfold Config.ok at hok; clear hw; simp only [w64]; omega)
 · rename_i hif
   first | rfl | (exfalso; have hw1 := hw (by simp_all); simp_all; done)
theorem implNodeCell_c {W : World} (c : Config) (i f : Int) : Calls Tryz.prog 45 #[.agg c.enc.toArray, vi i, vi f] W (Ret fun v w' => v = vi (nodeCell c i f) ∧ Below W.heap.size W w') := by
 refine cfr Tryz.func45 Tryz.ntmps45 fun a hF => ?_
 have hS := Sep.refl W
 refine ws fun K1 hK1 => wl_box (cs := [_, _, _, _, _, _]) hF hS rfl (hF.ev rfl) rfl fun g1 w1 a hS _ hF => ge hK1 hF rfl fun a hF => wp_seq_k fun K2 hK2 => ws fun K3 hK3 => gb 1 0 hF hS rfl rfl rfl fun a hF => ckr hF hS rfl (implIsConfig_c _) fun w2 a hS hF => ?_
 refine ga 2 hF rfl fun a hF => ?_
 apply wo 7 10 17 hF hS
 ·
  intro hg10 a hF
  refine gb 4 0 hF hS rfl rfl rfl fun a hF => ckr hF hS rfl (in_c _ _ _) fun w3 a hS hF => ?_
  exact je 7 hF hS rfl rfl rfl rfl
 intro a w4 hF hS
 refine ga 1 hF rfl fun a hF => ?_
 apply wo 4 18 22 hF hS
 ·
  intro hg18 a hF
  refine ga 1 hF rfl fun a hF => ckr hF hS rfl (in_c _ _ _) fun w5 a hS hF => ?_
  exact je 4 hF hS rfl rfl rfl rfl
 intro a w6 hF hS
 refine wl_nil <| hK3 _ _ <| cx 22 hF rfl (fun c22 hF => ?_) fun c22 hF => ?_
 ·
  refine rg hF rfl fun a hF => ?_
  refine xr ?_
  refine ret1 rfl hF rfl ⟨congrArg vi ?_, hS.old⟩
  unfold nodeCell
  have hw : c.ok → IntKind.i64.wrap (c.threads - 1) = c.threads - 1 ∧ IntKind.i64.wrap (c.keys - 1) = c.keys - 1 ∧ IntKind.i64.wrap (c.capacity - 1) = c.capacity - 1 := fun h => by unfold Config.ok at h; exact ⟨wm1 (by omega) (by omega), wm1 (by omega) (by omega), wm1 (by omega) (by omega)⟩
  split
  · rename_i hif
    first
    | (exfalso; have hw1 := hw (by simp_all); simp_all; done)
    | (have hok : c.ok := (by simp_all); unfold Config.ok at hok; clear hw; simp only [w64]; omega)
  · rename_i hif
    first | rfl | (exfalso; have hw1 := hw (by simp_all); simp_all; done)
 refine wp_skip <| hK2 _ _ <| rh 0 hF hS rfl rfl rfl fun a hF => ?_
 refine xr ?_
 refine ret1 rfl hF rfl ⟨congrArg vi ?_, hS.old⟩
 unfold nodeCell
 have hw : c.ok → IntKind.i64.wrap (c.threads - 1) = c.threads - 1 ∧ IntKind.i64.wrap (c.keys - 1) = c.keys - 1 ∧ IntKind.i64.wrap (c.capacity - 1) = c.capacity - 1 := fun h => by unfold Config.ok at h; exact ⟨wm1 (by omega) (by omega), wm1 (by omega) (by omega), wm1 (by omega) (by omega)⟩
 split
 · rename_i hif
   first
   | (exfalso; have hw1 := hw (by simp_all); simp_all; done)
   | (have hok : c.ok := (by simp_all); unfold Config.ok at hok; clear hw; simp only [w64]; omega)
 · rename_i hif
   first | rfl | (exfalso; have hw1 := hw (by simp_all); simp_all; done)
theorem implClockCell_c {W : World}  : Calls Tryz.prog 21 #[] W (Ret fun v w' => v = vi 0 ∧ Below W.heap.size W w') := by
 refine cfr Tryz.func21 Tryz.ntmps21 fun a hF => ?_
 have hS := Sep.refl W
 refine rg hF rfl fun a hF => rg hF rfl fun a hF => ?_
 refine xr ?_
 exact ret1 rfl hF rfl ⟨rfl, hS.old⟩
theorem implArenaCell_c {W : World}  : Calls Tryz.prog 42 #[] W (Ret fun v w' => v = vi 1 ∧ Below W.heap.size W w') := by
 refine cfr Tryz.func42 Tryz.ntmps42 fun a hF => ?_
 have hS := Sep.refl W
 refine rg hF rfl fun a hF => rg hF rfl fun a hF => ?_
 refine xr ?_
 exact ret1 rfl hF rfl ⟨rfl, hS.old⟩
theorem specIsEntry_c {W : World} {e : Entry} (hw : e.wf) : Calls Tryz.prog 58 #[.agg e.enc.toArray] W (Ret fun v w' => v = .bool (isEntry e) ∧ Below W.heap.size W w') := by
 refine cfr Tryz.func58 Tryz.ntmps58 fun a hF => ?_
 have hS := Sep.refl W
 refine ws fun K1 hK1 => wl_box (cs := [_, _, _, _]) hF hS rfl (hF.ev rfl) rfl fun g1 w1 a hS _ hF => ge hK1 hF rfl fun a hF => ws fun K2 hK2 => gb 2 0 hF hS rfl rfl rfl fun a hF => ckr hF hS rfl (specIsHandle_c hw.1) fun w2 a hS hF => ga 1 hF rfl fun a hF => ?_
 apply wa 5 6 11 hF hS
 ·
  intro hg6 a hF
  refine gb 2 0 hF hS rfl rfl rfl fun a hF => ckr hF hS rfl (specIsMarked_c hw.1) fun w3 a hS hF => ?_
  exact je 5 hF hS rfl rfl rfl rfl
 intro a w4 hF hS
 refine ga 1 hF rfl fun a hF => ?_
 apply wa 4 12 16 hF hS
 ·
  intro hg12 a hF
  refine gb 2 0 hF hS rfl rfl rfl fun a hF => ckr hF hS rfl (l1In_c _ _ _) fun w5 a hS hF => ?_
  exact je 4 hF hS rfl rfl rfl rfl
 intro a w6 hF hS
 refine ga 1 hF rfl fun a hF => ?_
 apply wa 6 17 23 hF hS
 ·
  intro hg17 a hF
  refine gb 4 0 hF hS rfl rfl rfl fun a hF => ckr hF hS rfl (l1In_c _ _ _) fun w7 a hS hF => ?_
  exact je 6 hF hS rfl rfl rfl rfl
 intro a w8 hF hS
 refine ga 1 hF rfl fun a hF => ?_
 apply wa 4 24 28 hF hS
 ·
  intro hg24 a hF
  exact jf 4 0 hF hS rfl rfl rfl rfl rfl rfl
 intro a w9 hF hS
 refine ge hK2 hF rfl fun a hF => ?_
 refine xr ?_
 refine ret1 rfl hF rfl ⟨congrArg Value.bool ?_, hS.old⟩
 unfold isEntry
 first | rfl | (rw [Bool.eq_iff_iff]; simp only [Bool.and_eq_true, decide_eq_true_eq, and_assoc])
theorem implIsEntry_c {W : World} {e : Entry} (hw : e.wf) : Calls Tryz.prog 92 #[.agg e.enc.toArray] W (Ret fun v w' => v = .bool (isEntry e) ∧ Below W.heap.size W w') := by
 refine cfr Tryz.func92 Tryz.ntmps92 fun a hF => ?_
 have hS := Sep.refl W
 refine ws fun K1 hK1 => wl_box (cs := [_, _, _, _]) hF hS rfl (hF.ev rfl) rfl fun g1 w1 a hS _ hF => ge hK1 hF rfl fun a hF => ws fun K2 hK2 => gb 2 0 hF hS rfl rfl rfl fun a hF => ckr hF hS rfl (implIsHandle_c hw.1) fun w2 a hS hF => ga 1 hF rfl fun a hF => ?_
 apply wa 5 6 11 hF hS
 ·
  intro hg6 a hF
  refine gb 2 0 hF hS rfl rfl rfl fun a hF => ckr hF hS rfl (implIsMarked_c hw.1) fun w3 a hS hF => ?_
  exact je 5 hF hS rfl rfl rfl rfl
 intro a w4 hF hS
 refine ga 1 hF rfl fun a hF => ?_
 apply wa 4 12 16 hF hS
 ·
  intro hg12 a hF
  refine gb 2 0 hF hS rfl rfl rfl fun a hF => ckr hF hS rfl (in_c _ _ _) fun w5 a hS hF => ?_
  exact je 4 hF hS rfl rfl rfl rfl
 intro a w6 hF hS
 refine ga 1 hF rfl fun a hF => ?_
 apply wa 4 17 21 hF hS
 ·
  intro hg17 a hF
  exact jf 4 0 hF hS rfl rfl rfl rfl rfl rfl
 intro a w7 hF hS
 refine ga 1 hF rfl fun a hF => ?_
 apply wa 6 22 28 hF hS
 ·
  intro hg22 a hF
  exact jf 6 0 hF hS rfl rfl rfl rfl rfl rfl
 intro a w8 hF hS
 refine ga 1 hF rfl fun a hF => ?_
 apply wa 4 29 33 hF hS
 ·
  intro hg29 a hF
  exact jf 4 0 hF hS rfl rfl rfl rfl rfl rfl
 intro a w9 hF hS
 refine ge hK2 hF rfl fun a hF => ?_
 refine xr ?_
 refine ret1 rfl hF rfl ⟨congrArg Value.bool ?_, hS.old⟩
 unfold isEntry
 first | rfl | (rw [Bool.eq_iff_iff]; simp only [Bool.and_eq_true, decide_eq_true_eq, and_assoc])
theorem l7Pcs_c {W : World}  : Calls Tryz.prog 109 #[] W (Ret (Mk W (fun s : Slv => sv s) (fun s => [Own intEK (sv s) pcs]))) := by
 refine cfr Tryz.func109 Tryz.ntmps109 fun a hF => ?_
 have hS := Sep.refl W
 refine rg hF rfl fun a hF => ws fun K2 hK2 => wl_bslice intEK [vi 0, vi 1, vi 2, vi 3, vi 4, vi 5, vi 10, vi 11, vi 12, vi 13, vi 14, vi 15, vi 16, vi 17, vi 18, vi 19, vi 20, vi 21, vi 30, vi 31, vi 32, vi 33, vi 34, vi 35, vi 36, vi 37, vi 38, vi 39, vi 40, vi 41, vi 42, vi 43, vi 44, vi 45, vi 46, vi 47, vi 50, vi 60, vi 61, vi 62, vi 63, vi 70, vi 80] [0, 1, 2, 3, 4, 5, 10, 11, 12, 13, 14, 15, 16, 17, 18, 19, 20, 21, 30, 31, 32, 33, 34, 35, 36, 37, 38, 39, 40, 41, 42, 43, 44, 45, 46, 47, 50, 60, 61, 62, 63, 70, 80] rfl hF hS rfl mk24 rfl ⟨rfl, ec, rfl, ec, rfl, ec, rfl, ec, rfl, ec, rfl, ec, rfl, ec, rfl, ec, rfl, ec, rfl, ec, rfl, ec, rfl, ec, rfl, ec, rfl, ec, rfl, ec, rfl, ec, rfl, ec, rfl, ec, rfl, ec, rfl, ec, rfl, ec, rfl, ec, rfl, ec, rfl, ec, rfl, ec, rfl, ec, rfl, ec, rfl, ec, rfl, ec, rfl, ec, rfl, ec, rfl, ec, rfl, ec, rfl, ec, rfl, ec, rfl, ec, rfl, ec, rfl, ec, rfl, ec, rfl, ec, rfl, ec, rfl, ec, rfl, ec, trivial⟩ rfl rfl rfl rfl fun gl_1 w1 a hS hF => ge hK2 hF rfl fun a hF => ?_
 refine xr ?_
 exact ret1 rfl hF rfl ⟨(_, _, _), rfl, hS.pick [0] (by decide) rfl⟩
theorem l7Names_c {W : World}  : Calls Tryz.prog 110 #[] W (Ret (Mk W (fun s : Slv => sv s) (fun s => [Own stringEK (sv s) pcNames]))) := by
 refine cfr Tryz.func110 Tryz.ntmps110 fun a hF => ?_
 have hS := Sep.refl W
 refine rg hF rfl fun a hF => ws fun K2 hK2 => wl_bslice stringEK [.string ⟨#[105, 100, 108, 101]⟩, .string ⟨#[98, 101, 103, 105, 110, 32, 108, 111, 97, 100]⟩, .string ⟨#[98, 101, 103, 105, 110, 32, 97, 110, 110, 111, 117, 110, 99, 101]⟩, .string ⟨#[98, 101, 103, 105, 110, 32, 99, 104, 101, 99, 107]⟩, .string ⟨#[98, 101, 103, 105, 110, 32, 116, 105, 99, 107]⟩, .string ⟨#[98, 101, 103, 105, 110, 32, 99, 108, 101, 97, 114]⟩, .string ⟨#[119, 97, 108, 107, 32, 104, 101, 97, 100]⟩, .string ⟨#[119, 97, 108, 107, 32, 103, 117, 97, 114, 100]⟩, .string ⟨#[119, 97, 108, 107, 32, 99, 104, 101, 99, 107]⟩, .string ⟨#[119, 97, 108, 107, 32, 110, 101, 120, 116]⟩, .string ⟨#[119, 97, 108, 107, 32, 117, 110, 108, 105, 110, 107]⟩, .string ⟨#[119, 97, 108, 107, 32, 115, 104, 105, 102, 116]⟩, .string ⟨#[114, 101, 97, 100, 32, 115, 116, 97, 109, 112]⟩, .string ⟨#[114, 101, 97, 100, 32, 99, 108, 111, 99, 107]⟩, .string ⟨#[114, 101, 97, 100, 32, 104, 101, 108, 112]⟩, .string ⟨#[114, 101, 97, 100, 32, 118, 97, 108, 117, 101]⟩, .string ⟨#[114, 101, 97, 100, 32, 99, 108, 101, 97, 114]⟩, .string ⟨#[114, 101, 97, 100, 32, 100, 111, 110, 101]⟩, .string ⟨#[119, 114, 105, 116, 101, 32, 97, 114, 101, 110, 97]⟩, .string ⟨#[119, 114, 105, 116, 101, 32, 116, 97, 107, 101]⟩, .string ⟨#[119, 114, 105, 116, 101, 32, 118, 97, 108, 117, 101]⟩, .string ⟨#[119, 114, 105, 116, 101, 32, 114, 101, 115, 101, 116]⟩, .string ⟨#[119, 114, 105, 116, 101, 32, 103, 117, 97, 114, 100]⟩, .string ⟨#[119, 114, 105, 116, 101, 32, 104, 101, 97, 100]⟩, .string ⟨#[119, 114, 105, 116, 101, 32, 104, 97, 122, 97, 114, 100]⟩, .string ⟨#[119, 114, 105, 116, 101, 32, 99, 104, 101, 99, 107]⟩, .string ⟨#[119, 114, 105, 116, 101, 32, 115, 116, 97, 109, 112]⟩, .string ⟨#[119, 114, 105, 116, 101, 32, 99, 108, 111, 99, 107]⟩, .string ⟨#[119, 114, 105, 116, 101, 32, 104, 101, 108, 112]⟩, .string ⟨#[119, 114, 105, 116, 101, 32, 108, 105, 110, 107]⟩, .string ⟨#[119, 114, 105, 116, 101, 32, 112, 117, 98, 108, 105, 115, 104]⟩, .string ⟨#[119, 114, 105, 116, 101, 32, 111, 119, 110, 32, 99, 108, 111, 99, 107]⟩, .string ⟨#[119, 114, 105, 116, 101, 32, 111, 119, 110, 32, 115, 116, 97, 109, 112]⟩, .string ⟨#[119, 114, 105, 116, 101, 32, 114, 101, 116, 105, 114, 101]⟩, .string ⟨#[119, 114, 105, 116, 101, 32, 99, 108, 101, 97, 114]⟩, .string ⟨#[119, 114, 105, 116, 101, 32, 100, 111, 110, 101]⟩, .string ⟨#[115, 99, 97, 110, 32, 97, 110, 110, 111, 117, 110, 99, 101, 100]⟩, .string ⟨#[109, 97, 114, 107, 32, 108, 111, 97, 100]⟩, .string ⟨#[109, 97, 114, 107, 32, 115, 119, 97, 112]⟩, .string ⟨#[102, 108, 117, 115, 104, 32, 99, 108, 101, 97, 114]⟩, .string ⟨#[102, 108, 117, 115, 104, 32, 100, 111, 110, 101]⟩, .string ⟨#[115, 99, 97, 110, 32, 104, 97, 122, 97, 114, 100, 115]⟩, .string ⟨#[101, 110, 100, 32, 99, 108, 101, 97, 114]⟩] [⟨#[105, 100, 108, 101]⟩, ⟨#[98, 101, 103, 105, 110, 32, 108, 111, 97, 100]⟩, ⟨#[98, 101, 103, 105, 110, 32, 97, 110, 110, 111, 117, 110, 99, 101]⟩, ⟨#[98, 101, 103, 105, 110, 32, 99, 104, 101, 99, 107]⟩, ⟨#[98, 101, 103, 105, 110, 32, 116, 105, 99, 107]⟩, ⟨#[98, 101, 103, 105, 110, 32, 99, 108, 101, 97, 114]⟩, ⟨#[119, 97, 108, 107, 32, 104, 101, 97, 100]⟩, ⟨#[119, 97, 108, 107, 32, 103, 117, 97, 114, 100]⟩, ⟨#[119, 97, 108, 107, 32, 99, 104, 101, 99, 107]⟩, ⟨#[119, 97, 108, 107, 32, 110, 101, 120, 116]⟩, ⟨#[119, 97, 108, 107, 32, 117, 110, 108, 105, 110, 107]⟩, ⟨#[119, 97, 108, 107, 32, 115, 104, 105, 102, 116]⟩, ⟨#[114, 101, 97, 100, 32, 115, 116, 97, 109, 112]⟩, ⟨#[114, 101, 97, 100, 32, 99, 108, 111, 99, 107]⟩, ⟨#[114, 101, 97, 100, 32, 104, 101, 108, 112]⟩, ⟨#[114, 101, 97, 100, 32, 118, 97, 108, 117, 101]⟩, ⟨#[114, 101, 97, 100, 32, 99, 108, 101, 97, 114]⟩, ⟨#[114, 101, 97, 100, 32, 100, 111, 110, 101]⟩, ⟨#[119, 114, 105, 116, 101, 32, 97, 114, 101, 110, 97]⟩, ⟨#[119, 114, 105, 116, 101, 32, 116, 97, 107, 101]⟩, ⟨#[119, 114, 105, 116, 101, 32, 118, 97, 108, 117, 101]⟩, ⟨#[119, 114, 105, 116, 101, 32, 114, 101, 115, 101, 116]⟩, ⟨#[119, 114, 105, 116, 101, 32, 103, 117, 97, 114, 100]⟩, ⟨#[119, 114, 105, 116, 101, 32, 104, 101, 97, 100]⟩, ⟨#[119, 114, 105, 116, 101, 32, 104, 97, 122, 97, 114, 100]⟩, ⟨#[119, 114, 105, 116, 101, 32, 99, 104, 101, 99, 107]⟩, ⟨#[119, 114, 105, 116, 101, 32, 115, 116, 97, 109, 112]⟩, ⟨#[119, 114, 105, 116, 101, 32, 99, 108, 111, 99, 107]⟩, ⟨#[119, 114, 105, 116, 101, 32, 104, 101, 108, 112]⟩, ⟨#[119, 114, 105, 116, 101, 32, 108, 105, 110, 107]⟩, ⟨#[119, 114, 105, 116, 101, 32, 112, 117, 98, 108, 105, 115, 104]⟩, ⟨#[119, 114, 105, 116, 101, 32, 111, 119, 110, 32, 99, 108, 111, 99, 107]⟩, ⟨#[119, 114, 105, 116, 101, 32, 111, 119, 110, 32, 115, 116, 97, 109, 112]⟩, ⟨#[119, 114, 105, 116, 101, 32, 114, 101, 116, 105, 114, 101]⟩, ⟨#[119, 114, 105, 116, 101, 32, 99, 108, 101, 97, 114]⟩, ⟨#[119, 114, 105, 116, 101, 32, 100, 111, 110, 101]⟩, ⟨#[115, 99, 97, 110, 32, 97, 110, 110, 111, 117, 110, 99, 101, 100]⟩, ⟨#[109, 97, 114, 107, 32, 108, 111, 97, 100]⟩, ⟨#[109, 97, 114, 107, 32, 115, 119, 97, 112]⟩, ⟨#[102, 108, 117, 115, 104, 32, 99, 108, 101, 97, 114]⟩, ⟨#[102, 108, 117, 115, 104, 32, 100, 111, 110, 101]⟩, ⟨#[115, 99, 97, 110, 32, 104, 97, 122, 97, 114, 100, 115]⟩, ⟨#[101, 110, 100, 32, 99, 108, 101, 97, 114]⟩] rfl hF hS rfl mk48 rfl ⟨rfl, ec, rfl, ec, rfl, ec, rfl, ec, rfl, ec, rfl, ec, rfl, ec, rfl, ec, rfl, ec, rfl, ec, rfl, ec, rfl, ec, rfl, ec, rfl, ec, rfl, ec, rfl, ec, rfl, ec, rfl, ec, rfl, ec, rfl, ec, rfl, ec, rfl, ec, rfl, ec, rfl, ec, rfl, ec, rfl, ec, rfl, ec, rfl, ec, rfl, ec, rfl, ec, rfl, ec, rfl, ec, rfl, ec, rfl, ec, rfl, ec, rfl, ec, rfl, ec, rfl, ec, rfl, ec, rfl, ec, rfl, ec, rfl, ec, rfl, ec, trivial⟩ rfl rfl rfl rfl fun gl_1 w1 a hS hF => ge hK2 hF rfl fun a hF => ?_
 refine xr ?_
 exact ret1 rfl hF rfl ⟨(_, _, _), rfl, hS.pick [0] (by decide) rfl⟩
theorem specPcName_c {W : World} {pc : Int} : Calls Tryz.prog 85 #[vi pc] W (Ret fun v w' => (∃ s : ByteArray, v = .string s ∧ (s.data.toList == []) = !decide (pc ∈ pcs)) ∧ Below W.heap.size W w') := by
 refine cfr Tryz.func85 Tryz.ntmps85 fun a hF => ?_
 have hpl : pcs.length = 43 := rfl
 have hnl : pcNames.length = 43 := rfl
 have hS := Sep.refl W
 refine rg hF rfl fun a hF => ws fun K2 hK2 => ?_
 refine wl_mk hF hS rfl rfl rfl (r_call0 en109 ) (l7Pcs_c) ?_; rintro s5 w1 a hS_ hF; replace hS := hS_; clear hS_; dsimp only [List.cons_append, List.nil_append] at hS
 have hln5 := hS.own_len (q := 0) rfl
 refine ge hK2 hF rfl fun a hF => wp_seq_k fun K3 hK3 => rg hF rfl fun a hF => wp_block ?_
 have hL_ := (((hF.nil.keep hF (t := 3) rfl).keep hF (t := 2) rfl).keep hF (t := 0) rfl)
 refine wp_loop_r (σ := Nat) (fun k L_ => (4, vi k) :: L_) (fun k => (k ≤ pcs.length) ∧ ((pcs.take k).any (fun x => decide (x = pc)) = false)) (fun k => 43 - k) 0 hS (hL_.keepE hF (t := 4) rfl rfl) ?_ ?_
 · exact ⟨Nat.zero_le _, rfl⟩
 rintro k a w2 ⟨hk, hn⟩ hS hF; try dsimp only at hF; try dsimp only at hS
 refine wp_seq_k fun K5 hK5 => rg hF rfl fun a hF => cx 9 hF rfl (fun c9 hF => ?_) fun c9 hF => ?_
 ·
  refine wp_skip <| hK5 _ _ <| wp_seq_k fun K7 hK7 => wp_block <| ws fun K8 hK8 => ga 2 hF rfl fun a hF => ?_
  obtain ⟨g14, o14, m14, q14, hv14, hm14, hl14, hc14⟩ := Rd.atF ((hS.own_rd (i := 0) rfl)) (a := a) (X := .tmp 13) (hF.ev rfl) (by omega) (by omega)
  refine wl hF rfl rfl rfl (r_index sl24 ((hF.ev rfl).trans hv14) (hF.ev rfl) (by omega) (by first | omega | (simp at hm14; omega))) fun a hF => ?_
  refine wl hF rfl rfl rfl (r_load1 sc3 (hF.ev rfl) (hc14 0 _ rfl)) fun a hF => ge hK8 hF rfl fun a hF => cx 17 hF rfl (fun c17 hF => ?_) fun c17 hF => ?_
  ·
   refine ws fun K9 hK9 => ?_
   refine wl_mk hF hS rfl rfl rfl (r_call0 en110 ) (l7Names_c) ?_; rintro s18 w3 a hS_ hF; replace hS := hS_; clear hS_; dsimp only [List.cons_append, List.nil_append] at hS
   have hln18 := hS.own_len (q := 0) rfl
   refine ga 1 hF rfl fun a hF => ?_
   obtain ⟨g20, o20, m20, q20, hv20, hm20, hl20, hc20⟩ := Rd.atF ((hS.own_rd (i := 0) rfl)) (a := a) (X := .tmp 19) (hF.ev rfl) (by omega) (by have : pcs.length = 43 := rfl; have : pcNames.length = 43 := rfl; omega)
   refine wl hF rfl rfl rfl (r_index sl48 ((hF.ev rfl).trans hv20) (hF.ev rfl) (by omega) (by first | omega | (simp at hm20; omega))) fun a hF => ?_
   refine wl hF rfl rfl rfl (r_load1 sc9 (hF.ev rfl) (hc20 0 _ rfl)) fun a hF => ge hK9 hF rfl fun a hF => ?_
   refine xr ?_
   first
     | (refine ret1 rfl hF rfl ⟨⟨_, rfl, ?_⟩, hS.old⟩
        rw [pcNames_ne (at0_mem (by omega) (by have : pcs.length = 43 := rfl; have : pcNames.length = 43 := rfl; omega)), decide_eq_true (show pc ∈ pcs from c17 ▸ at0_mem (by omega) (by omega))]; rfl)
     | (refine ret1 rfl hF rfl ⟨⟨_, rfl, ?_⟩, hS.old⟩
        have hn2 := any_all hn hk (by omega)
        rw [decide_eq_false (fun h => by have := List.any_eq_false.1 hn2 pc h; simp at this)]; rfl)
  refine wp_skip ?_
  refine xt ?_
  refine hK7 _ _ <| rl hF rfl fun a hF => ?_
  refine xt ?_
  refine ⟨k + 1, ⟨by omega, any_next hn (at0_nat (by omega)) (decide_eq_false c17)⟩, hS, ((((hF.nil.keep hF (t := 3) rfl).keep hF (t := 2) rfl).keep hF (t := 0) rfl).keepE hF (t := 4) rfl (wk (by omega))), by have : pcs.length = 43 := rfl; omega⟩
 refine wp_exit ?_
 refine xt ?_
 refine hK3 _ _ <| rg hF rfl fun a hF => ?_
 refine xr ?_
 first
   | (refine ret1 rfl hF rfl ⟨⟨_, rfl, ?_⟩, hS.old⟩
      rw [pcNames_ne (at0_mem (by omega) (by have : pcs.length = 43 := rfl; have : pcNames.length = 43 := rfl; omega)), decide_eq_true (show pc ∈ pcs from c17 ▸ at0_mem (by omega) (by omega))]; rfl)
   | (refine ret1 rfl hF rfl ⟨⟨_, rfl, ?_⟩, hS.old⟩
      have hn2 := any_all hn hk (by omega)
      rw [decide_eq_false (fun h => by have := List.any_eq_false.1 hn2 pc h; simp at this)]; rfl)
theorem implPcName_c {W : World} {pc : Int} : Calls Tryz.prog 89 #[vi pc] W (Ret fun v w' => (∃ s : ByteArray, v = .string s ∧ (s.data.toList == []) = !decide (pc ∈ pcs)) ∧ Below W.heap.size W w') := by
 refine cfr Tryz.func89 Tryz.ntmps89 fun a hF => ?_
 have hS := Sep.refl W
 refine rg hF rfl fun a hF => wp_seq_k fun K2 hK2 => rg hF rfl fun a hF => wp_block <| rg hF rfl fun a hF => cx 4 hF rfl (fun c4 hF => ?_) fun c4 hF => ?_
 ·
  refine rg hF rfl fun a hF => ?_
  refine xr ?_
  refine ret1 rfl hF rfl ⟨⟨_, rfl, ?_⟩, hS.old⟩
  first
    | (rw [decide_eq_true (show pc ∈ pcs from by subst_vars; decide)]; rfl)
    | (rw [decide_eq_false (show ¬ pc ∈ pcs from by unfold pcs; simp only [List.mem_cons, List.not_mem_nil, or_false]; omega)]; rfl)
 refine rg hF rfl fun a hF => cx 6 hF rfl (fun c6 hF => ?_) fun c6 hF => ?_
 ·
  refine rg hF rfl fun a hF => ?_
  refine xr ?_
  refine ret1 rfl hF rfl ⟨⟨_, rfl, ?_⟩, hS.old⟩
  first
    | (rw [decide_eq_true (show pc ∈ pcs from by subst_vars; decide)]; rfl)
    | (rw [decide_eq_false (show ¬ pc ∈ pcs from by unfold pcs; simp only [List.mem_cons, List.not_mem_nil, or_false]; omega)]; rfl)
 refine rg hF rfl fun a hF => cx 8 hF rfl (fun c8 hF => ?_) fun c8 hF => ?_
 ·
  refine rg hF rfl fun a hF => ?_
  refine xr ?_
  refine ret1 rfl hF rfl ⟨⟨_, rfl, ?_⟩, hS.old⟩
  first
    | (rw [decide_eq_true (show pc ∈ pcs from by subst_vars; decide)]; rfl)
    | (rw [decide_eq_false (show ¬ pc ∈ pcs from by unfold pcs; simp only [List.mem_cons, List.not_mem_nil, or_false]; omega)]; rfl)
 refine rg hF rfl fun a hF => cx 10 hF rfl (fun c10 hF => ?_) fun c10 hF => ?_
 ·
  refine rg hF rfl fun a hF => ?_
  refine xr ?_
  refine ret1 rfl hF rfl ⟨⟨_, rfl, ?_⟩, hS.old⟩
  first
    | (rw [decide_eq_true (show pc ∈ pcs from by subst_vars; decide)]; rfl)
    | (rw [decide_eq_false (show ¬ pc ∈ pcs from by unfold pcs; simp only [List.mem_cons, List.not_mem_nil, or_false]; omega)]; rfl)
 refine rg hF rfl fun a hF => cx 12 hF rfl (fun c12 hF => ?_) fun c12 hF => ?_
 ·
  refine rg hF rfl fun a hF => ?_
  refine xr ?_
  refine ret1 rfl hF rfl ⟨⟨_, rfl, ?_⟩, hS.old⟩
  first
    | (rw [decide_eq_true (show pc ∈ pcs from by subst_vars; decide)]; rfl)
    | (rw [decide_eq_false (show ¬ pc ∈ pcs from by unfold pcs; simp only [List.mem_cons, List.not_mem_nil, or_false]; omega)]; rfl)
 refine rg hF rfl fun a hF => cx 14 hF rfl (fun c14 hF => ?_) fun c14 hF => ?_
 ·
  refine rg hF rfl fun a hF => ?_
  refine xr ?_
  refine ret1 rfl hF rfl ⟨⟨_, rfl, ?_⟩, hS.old⟩
  first
    | (rw [decide_eq_true (show pc ∈ pcs from by subst_vars; decide)]; rfl)
    | (rw [decide_eq_false (show ¬ pc ∈ pcs from by unfold pcs; simp only [List.mem_cons, List.not_mem_nil, or_false]; omega)]; rfl)
 refine rg hF rfl fun a hF => cx 16 hF rfl (fun c16 hF => ?_) fun c16 hF => ?_
 ·
  refine rg hF rfl fun a hF => ?_
  refine xr ?_
  refine ret1 rfl hF rfl ⟨⟨_, rfl, ?_⟩, hS.old⟩
  first
    | (rw [decide_eq_true (show pc ∈ pcs from by subst_vars; decide)]; rfl)
    | (rw [decide_eq_false (show ¬ pc ∈ pcs from by unfold pcs; simp only [List.mem_cons, List.not_mem_nil, or_false]; omega)]; rfl)
 refine rg hF rfl fun a hF => cx 18 hF rfl (fun c18 hF => ?_) fun c18 hF => ?_
 ·
  refine rg hF rfl fun a hF => ?_
  refine xr ?_
  refine ret1 rfl hF rfl ⟨⟨_, rfl, ?_⟩, hS.old⟩
  first
    | (rw [decide_eq_true (show pc ∈ pcs from by subst_vars; decide)]; rfl)
    | (rw [decide_eq_false (show ¬ pc ∈ pcs from by unfold pcs; simp only [List.mem_cons, List.not_mem_nil, or_false]; omega)]; rfl)
 refine rg hF rfl fun a hF => cx 20 hF rfl (fun c20 hF => ?_) fun c20 hF => ?_
 ·
  refine rg hF rfl fun a hF => ?_
  refine xr ?_
  refine ret1 rfl hF rfl ⟨⟨_, rfl, ?_⟩, hS.old⟩
  first
    | (rw [decide_eq_true (show pc ∈ pcs from by subst_vars; decide)]; rfl)
    | (rw [decide_eq_false (show ¬ pc ∈ pcs from by unfold pcs; simp only [List.mem_cons, List.not_mem_nil, or_false]; omega)]; rfl)
 refine rg hF rfl fun a hF => cx 22 hF rfl (fun c22 hF => ?_) fun c22 hF => ?_
 ·
  refine rg hF rfl fun a hF => ?_
  refine xr ?_
  refine ret1 rfl hF rfl ⟨⟨_, rfl, ?_⟩, hS.old⟩
  first
    | (rw [decide_eq_true (show pc ∈ pcs from by subst_vars; decide)]; rfl)
    | (rw [decide_eq_false (show ¬ pc ∈ pcs from by unfold pcs; simp only [List.mem_cons, List.not_mem_nil, or_false]; omega)]; rfl)
 refine rg hF rfl fun a hF => cx 24 hF rfl (fun c24 hF => ?_) fun c24 hF => ?_
 ·
  refine rg hF rfl fun a hF => ?_
  refine xr ?_
  refine ret1 rfl hF rfl ⟨⟨_, rfl, ?_⟩, hS.old⟩
  first
    | (rw [decide_eq_true (show pc ∈ pcs from by subst_vars; decide)]; rfl)
    | (rw [decide_eq_false (show ¬ pc ∈ pcs from by unfold pcs; simp only [List.mem_cons, List.not_mem_nil, or_false]; omega)]; rfl)
 refine rg hF rfl fun a hF => cx 26 hF rfl (fun c26 hF => ?_) fun c26 hF => ?_
 ·
  refine rg hF rfl fun a hF => ?_
  refine xr ?_
  refine ret1 rfl hF rfl ⟨⟨_, rfl, ?_⟩, hS.old⟩
  first
    | (rw [decide_eq_true (show pc ∈ pcs from by subst_vars; decide)]; rfl)
    | (rw [decide_eq_false (show ¬ pc ∈ pcs from by unfold pcs; simp only [List.mem_cons, List.not_mem_nil, or_false]; omega)]; rfl)
 refine rg hF rfl fun a hF => cx 28 hF rfl (fun c28 hF => ?_) fun c28 hF => ?_
 ·
  refine rg hF rfl fun a hF => ?_
  refine xr ?_
  refine ret1 rfl hF rfl ⟨⟨_, rfl, ?_⟩, hS.old⟩
  first
    | (rw [decide_eq_true (show pc ∈ pcs from by subst_vars; decide)]; rfl)
    | (rw [decide_eq_false (show ¬ pc ∈ pcs from by unfold pcs; simp only [List.mem_cons, List.not_mem_nil, or_false]; omega)]; rfl)
 refine rg hF rfl fun a hF => cx 30 hF rfl (fun c30 hF => ?_) fun c30 hF => ?_
 ·
  refine rg hF rfl fun a hF => ?_
  refine xr ?_
  refine ret1 rfl hF rfl ⟨⟨_, rfl, ?_⟩, hS.old⟩
  first
    | (rw [decide_eq_true (show pc ∈ pcs from by subst_vars; decide)]; rfl)
    | (rw [decide_eq_false (show ¬ pc ∈ pcs from by unfold pcs; simp only [List.mem_cons, List.not_mem_nil, or_false]; omega)]; rfl)
 refine rg hF rfl fun a hF => cx 32 hF rfl (fun c32 hF => ?_) fun c32 hF => ?_
 ·
  refine rg hF rfl fun a hF => ?_
  refine xr ?_
  refine ret1 rfl hF rfl ⟨⟨_, rfl, ?_⟩, hS.old⟩
  first
    | (rw [decide_eq_true (show pc ∈ pcs from by subst_vars; decide)]; rfl)
    | (rw [decide_eq_false (show ¬ pc ∈ pcs from by unfold pcs; simp only [List.mem_cons, List.not_mem_nil, or_false]; omega)]; rfl)
 refine rg hF rfl fun a hF => cx 34 hF rfl (fun c34 hF => ?_) fun c34 hF => ?_
 ·
  refine rg hF rfl fun a hF => ?_
  refine xr ?_
  refine ret1 rfl hF rfl ⟨⟨_, rfl, ?_⟩, hS.old⟩
  first
    | (rw [decide_eq_true (show pc ∈ pcs from by subst_vars; decide)]; rfl)
    | (rw [decide_eq_false (show ¬ pc ∈ pcs from by unfold pcs; simp only [List.mem_cons, List.not_mem_nil, or_false]; omega)]; rfl)
 refine rg hF rfl fun a hF => cx 36 hF rfl (fun c36 hF => ?_) fun c36 hF => ?_
 ·
  refine rg hF rfl fun a hF => ?_
  refine xr ?_
  refine ret1 rfl hF rfl ⟨⟨_, rfl, ?_⟩, hS.old⟩
  first
    | (rw [decide_eq_true (show pc ∈ pcs from by subst_vars; decide)]; rfl)
    | (rw [decide_eq_false (show ¬ pc ∈ pcs from by unfold pcs; simp only [List.mem_cons, List.not_mem_nil, or_false]; omega)]; rfl)
 refine rg hF rfl fun a hF => cx 38 hF rfl (fun c38 hF => ?_) fun c38 hF => ?_
 ·
  refine rg hF rfl fun a hF => ?_
  refine xr ?_
  refine ret1 rfl hF rfl ⟨⟨_, rfl, ?_⟩, hS.old⟩
  first
    | (rw [decide_eq_true (show pc ∈ pcs from by subst_vars; decide)]; rfl)
    | (rw [decide_eq_false (show ¬ pc ∈ pcs from by unfold pcs; simp only [List.mem_cons, List.not_mem_nil, or_false]; omega)]; rfl)
 refine rg hF rfl fun a hF => cx 40 hF rfl (fun c40 hF => ?_) fun c40 hF => ?_
 ·
  refine rg hF rfl fun a hF => ?_
  refine xr ?_
  refine ret1 rfl hF rfl ⟨⟨_, rfl, ?_⟩, hS.old⟩
  first
    | (rw [decide_eq_true (show pc ∈ pcs from by subst_vars; decide)]; rfl)
    | (rw [decide_eq_false (show ¬ pc ∈ pcs from by unfold pcs; simp only [List.mem_cons, List.not_mem_nil, or_false]; omega)]; rfl)
 refine rg hF rfl fun a hF => cx 42 hF rfl (fun c42 hF => ?_) fun c42 hF => ?_
 ·
  refine rg hF rfl fun a hF => ?_
  refine xr ?_
  refine ret1 rfl hF rfl ⟨⟨_, rfl, ?_⟩, hS.old⟩
  first
    | (rw [decide_eq_true (show pc ∈ pcs from by subst_vars; decide)]; rfl)
    | (rw [decide_eq_false (show ¬ pc ∈ pcs from by unfold pcs; simp only [List.mem_cons, List.not_mem_nil, or_false]; omega)]; rfl)
 refine rg hF rfl fun a hF => cx 44 hF rfl (fun c44 hF => ?_) fun c44 hF => ?_
 ·
  refine rg hF rfl fun a hF => ?_
  refine xr ?_
  refine ret1 rfl hF rfl ⟨⟨_, rfl, ?_⟩, hS.old⟩
  first
    | (rw [decide_eq_true (show pc ∈ pcs from by subst_vars; decide)]; rfl)
    | (rw [decide_eq_false (show ¬ pc ∈ pcs from by unfold pcs; simp only [List.mem_cons, List.not_mem_nil, or_false]; omega)]; rfl)
 refine rg hF rfl fun a hF => cx 46 hF rfl (fun c46 hF => ?_) fun c46 hF => ?_
 ·
  refine rg hF rfl fun a hF => ?_
  refine xr ?_
  refine ret1 rfl hF rfl ⟨⟨_, rfl, ?_⟩, hS.old⟩
  first
    | (rw [decide_eq_true (show pc ∈ pcs from by subst_vars; decide)]; rfl)
    | (rw [decide_eq_false (show ¬ pc ∈ pcs from by unfold pcs; simp only [List.mem_cons, List.not_mem_nil, or_false]; omega)]; rfl)
 refine rg hF rfl fun a hF => cx 48 hF rfl (fun c48 hF => ?_) fun c48 hF => ?_
 ·
  refine rg hF rfl fun a hF => ?_
  refine xr ?_
  refine ret1 rfl hF rfl ⟨⟨_, rfl, ?_⟩, hS.old⟩
  first
    | (rw [decide_eq_true (show pc ∈ pcs from by subst_vars; decide)]; rfl)
    | (rw [decide_eq_false (show ¬ pc ∈ pcs from by unfold pcs; simp only [List.mem_cons, List.not_mem_nil, or_false]; omega)]; rfl)
 refine rg hF rfl fun a hF => cx 50 hF rfl (fun c50 hF => ?_) fun c50 hF => ?_
 ·
  refine rg hF rfl fun a hF => ?_
  refine xr ?_
  refine ret1 rfl hF rfl ⟨⟨_, rfl, ?_⟩, hS.old⟩
  first
    | (rw [decide_eq_true (show pc ∈ pcs from by subst_vars; decide)]; rfl)
    | (rw [decide_eq_false (show ¬ pc ∈ pcs from by unfold pcs; simp only [List.mem_cons, List.not_mem_nil, or_false]; omega)]; rfl)
 refine rg hF rfl fun a hF => cx 52 hF rfl (fun c52 hF => ?_) fun c52 hF => ?_
 ·
  refine rg hF rfl fun a hF => ?_
  refine xr ?_
  refine ret1 rfl hF rfl ⟨⟨_, rfl, ?_⟩, hS.old⟩
  first
    | (rw [decide_eq_true (show pc ∈ pcs from by subst_vars; decide)]; rfl)
    | (rw [decide_eq_false (show ¬ pc ∈ pcs from by unfold pcs; simp only [List.mem_cons, List.not_mem_nil, or_false]; omega)]; rfl)
 refine rg hF rfl fun a hF => cx 54 hF rfl (fun c54 hF => ?_) fun c54 hF => ?_
 ·
  refine rg hF rfl fun a hF => ?_
  refine xr ?_
  refine ret1 rfl hF rfl ⟨⟨_, rfl, ?_⟩, hS.old⟩
  first
    | (rw [decide_eq_true (show pc ∈ pcs from by subst_vars; decide)]; rfl)
    | (rw [decide_eq_false (show ¬ pc ∈ pcs from by unfold pcs; simp only [List.mem_cons, List.not_mem_nil, or_false]; omega)]; rfl)
 refine rg hF rfl fun a hF => cx 56 hF rfl (fun c56 hF => ?_) fun c56 hF => ?_
 ·
  refine rg hF rfl fun a hF => ?_
  refine xr ?_
  refine ret1 rfl hF rfl ⟨⟨_, rfl, ?_⟩, hS.old⟩
  first
    | (rw [decide_eq_true (show pc ∈ pcs from by subst_vars; decide)]; rfl)
    | (rw [decide_eq_false (show ¬ pc ∈ pcs from by unfold pcs; simp only [List.mem_cons, List.not_mem_nil, or_false]; omega)]; rfl)
 refine rg hF rfl fun a hF => cx 58 hF rfl (fun c58 hF => ?_) fun c58 hF => ?_
 ·
  refine rg hF rfl fun a hF => ?_
  refine xr ?_
  refine ret1 rfl hF rfl ⟨⟨_, rfl, ?_⟩, hS.old⟩
  first
    | (rw [decide_eq_true (show pc ∈ pcs from by subst_vars; decide)]; rfl)
    | (rw [decide_eq_false (show ¬ pc ∈ pcs from by unfold pcs; simp only [List.mem_cons, List.not_mem_nil, or_false]; omega)]; rfl)
 refine rg hF rfl fun a hF => cx 60 hF rfl (fun c60 hF => ?_) fun c60 hF => ?_
 ·
  refine rg hF rfl fun a hF => ?_
  refine xr ?_
  refine ret1 rfl hF rfl ⟨⟨_, rfl, ?_⟩, hS.old⟩
  first
    | (rw [decide_eq_true (show pc ∈ pcs from by subst_vars; decide)]; rfl)
    | (rw [decide_eq_false (show ¬ pc ∈ pcs from by unfold pcs; simp only [List.mem_cons, List.not_mem_nil, or_false]; omega)]; rfl)
 refine rg hF rfl fun a hF => cx 62 hF rfl (fun c62 hF => ?_) fun c62 hF => ?_
 ·
  refine rg hF rfl fun a hF => ?_
  refine xr ?_
  refine ret1 rfl hF rfl ⟨⟨_, rfl, ?_⟩, hS.old⟩
  first
    | (rw [decide_eq_true (show pc ∈ pcs from by subst_vars; decide)]; rfl)
    | (rw [decide_eq_false (show ¬ pc ∈ pcs from by unfold pcs; simp only [List.mem_cons, List.not_mem_nil, or_false]; omega)]; rfl)
 refine rg hF rfl fun a hF => cx 64 hF rfl (fun c64 hF => ?_) fun c64 hF => ?_
 ·
  refine rg hF rfl fun a hF => ?_
  refine xr ?_
  refine ret1 rfl hF rfl ⟨⟨_, rfl, ?_⟩, hS.old⟩
  first
    | (rw [decide_eq_true (show pc ∈ pcs from by subst_vars; decide)]; rfl)
    | (rw [decide_eq_false (show ¬ pc ∈ pcs from by unfold pcs; simp only [List.mem_cons, List.not_mem_nil, or_false]; omega)]; rfl)
 refine rg hF rfl fun a hF => cx 66 hF rfl (fun c66 hF => ?_) fun c66 hF => ?_
 ·
  refine rg hF rfl fun a hF => ?_
  refine xr ?_
  refine ret1 rfl hF rfl ⟨⟨_, rfl, ?_⟩, hS.old⟩
  first
    | (rw [decide_eq_true (show pc ∈ pcs from by subst_vars; decide)]; rfl)
    | (rw [decide_eq_false (show ¬ pc ∈ pcs from by unfold pcs; simp only [List.mem_cons, List.not_mem_nil, or_false]; omega)]; rfl)
 refine rg hF rfl fun a hF => cx 68 hF rfl (fun c68 hF => ?_) fun c68 hF => ?_
 ·
  refine rg hF rfl fun a hF => ?_
  refine xr ?_
  refine ret1 rfl hF rfl ⟨⟨_, rfl, ?_⟩, hS.old⟩
  first
    | (rw [decide_eq_true (show pc ∈ pcs from by subst_vars; decide)]; rfl)
    | (rw [decide_eq_false (show ¬ pc ∈ pcs from by unfold pcs; simp only [List.mem_cons, List.not_mem_nil, or_false]; omega)]; rfl)
 refine rg hF rfl fun a hF => cx 70 hF rfl (fun c70 hF => ?_) fun c70 hF => ?_
 ·
  refine rg hF rfl fun a hF => ?_
  refine xr ?_
  refine ret1 rfl hF rfl ⟨⟨_, rfl, ?_⟩, hS.old⟩
  first
    | (rw [decide_eq_true (show pc ∈ pcs from by subst_vars; decide)]; rfl)
    | (rw [decide_eq_false (show ¬ pc ∈ pcs from by unfold pcs; simp only [List.mem_cons, List.not_mem_nil, or_false]; omega)]; rfl)
 refine rg hF rfl fun a hF => cx 72 hF rfl (fun c72 hF => ?_) fun c72 hF => ?_
 ·
  refine rg hF rfl fun a hF => ?_
  refine xr ?_
  refine ret1 rfl hF rfl ⟨⟨_, rfl, ?_⟩, hS.old⟩
  first
    | (rw [decide_eq_true (show pc ∈ pcs from by subst_vars; decide)]; rfl)
    | (rw [decide_eq_false (show ¬ pc ∈ pcs from by unfold pcs; simp only [List.mem_cons, List.not_mem_nil, or_false]; omega)]; rfl)
 refine rg hF rfl fun a hF => cx 74 hF rfl (fun c74 hF => ?_) fun c74 hF => ?_
 ·
  refine rg hF rfl fun a hF => ?_
  refine xr ?_
  refine ret1 rfl hF rfl ⟨⟨_, rfl, ?_⟩, hS.old⟩
  first
    | (rw [decide_eq_true (show pc ∈ pcs from by subst_vars; decide)]; rfl)
    | (rw [decide_eq_false (show ¬ pc ∈ pcs from by unfold pcs; simp only [List.mem_cons, List.not_mem_nil, or_false]; omega)]; rfl)
 refine rg hF rfl fun a hF => cx 76 hF rfl (fun c76 hF => ?_) fun c76 hF => ?_
 ·
  refine rg hF rfl fun a hF => ?_
  refine xr ?_
  refine ret1 rfl hF rfl ⟨⟨_, rfl, ?_⟩, hS.old⟩
  first
    | (rw [decide_eq_true (show pc ∈ pcs from by subst_vars; decide)]; rfl)
    | (rw [decide_eq_false (show ¬ pc ∈ pcs from by unfold pcs; simp only [List.mem_cons, List.not_mem_nil, or_false]; omega)]; rfl)
 refine rg hF rfl fun a hF => cx 78 hF rfl (fun c78 hF => ?_) fun c78 hF => ?_
 ·
  refine rg hF rfl fun a hF => ?_
  refine xr ?_
  refine ret1 rfl hF rfl ⟨⟨_, rfl, ?_⟩, hS.old⟩
  first
    | (rw [decide_eq_true (show pc ∈ pcs from by subst_vars; decide)]; rfl)
    | (rw [decide_eq_false (show ¬ pc ∈ pcs from by unfold pcs; simp only [List.mem_cons, List.not_mem_nil, or_false]; omega)]; rfl)
 refine rg hF rfl fun a hF => cx 80 hF rfl (fun c80 hF => ?_) fun c80 hF => ?_
 ·
  refine rg hF rfl fun a hF => ?_
  refine xr ?_
  refine ret1 rfl hF rfl ⟨⟨_, rfl, ?_⟩, hS.old⟩
  first
    | (rw [decide_eq_true (show pc ∈ pcs from by subst_vars; decide)]; rfl)
    | (rw [decide_eq_false (show ¬ pc ∈ pcs from by unfold pcs; simp only [List.mem_cons, List.not_mem_nil, or_false]; omega)]; rfl)
 refine rg hF rfl fun a hF => cx 82 hF rfl (fun c82 hF => ?_) fun c82 hF => ?_
 ·
  refine rg hF rfl fun a hF => ?_
  refine xr ?_
  refine ret1 rfl hF rfl ⟨⟨_, rfl, ?_⟩, hS.old⟩
  first
    | (rw [decide_eq_true (show pc ∈ pcs from by subst_vars; decide)]; rfl)
    | (rw [decide_eq_false (show ¬ pc ∈ pcs from by unfold pcs; simp only [List.mem_cons, List.not_mem_nil, or_false]; omega)]; rfl)
 refine rg hF rfl fun a hF => cx 84 hF rfl (fun c84 hF => ?_) fun c84 hF => ?_
 ·
  refine rg hF rfl fun a hF => ?_
  refine xr ?_
  refine ret1 rfl hF rfl ⟨⟨_, rfl, ?_⟩, hS.old⟩
  first
    | (rw [decide_eq_true (show pc ∈ pcs from by subst_vars; decide)]; rfl)
    | (rw [decide_eq_false (show ¬ pc ∈ pcs from by unfold pcs; simp only [List.mem_cons, List.not_mem_nil, or_false]; omega)]; rfl)
 refine rg hF rfl fun a hF => cx 86 hF rfl (fun c86 hF => ?_) fun c86 hF => ?_
 ·
  refine rg hF rfl fun a hF => ?_
  refine xr ?_
  refine ret1 rfl hF rfl ⟨⟨_, rfl, ?_⟩, hS.old⟩
  first
    | (rw [decide_eq_true (show pc ∈ pcs from by subst_vars; decide)]; rfl)
    | (rw [decide_eq_false (show ¬ pc ∈ pcs from by unfold pcs; simp only [List.mem_cons, List.not_mem_nil, or_false]; omega)]; rfl)
 refine rg hF rfl fun a hF => cx 88 hF rfl (fun c88 hF => ?_) fun c88 hF => ?_
 ·
  refine rg hF rfl fun a hF => ?_
  refine xr ?_
  refine ret1 rfl hF rfl ⟨⟨_, rfl, ?_⟩, hS.old⟩
  first
    | (rw [decide_eq_true (show pc ∈ pcs from by subst_vars; decide)]; rfl)
    | (rw [decide_eq_false (show ¬ pc ∈ pcs from by unfold pcs; simp only [List.mem_cons, List.not_mem_nil, or_false]; omega)]; rfl)
 refine wp_skip ?_
 refine xt ?_
 refine hK2 _ _ <| rg hF rfl fun a hF => ?_
 refine xr ?_
 refine ret1 rfl hF rfl ⟨⟨_, rfl, ?_⟩, hS.old⟩
 first
   | (rw [decide_eq_true (show pc ∈ pcs from by subst_vars; decide)]; rfl)
   | (rw [decide_eq_false (show ¬ pc ∈ pcs from by unfold pcs; simp only [List.mem_cons, List.not_mem_nil, or_false]; omega)]; rfl)
theorem specIsPc_c {W : World} {pc : Int} : Calls Tryz.prog 60 #[vi pc] W (Ret fun v w' => v = .bool (decide (pc ∈ pcs)) ∧ Below W.heap.size W w') := by
 refine cfr Tryz.func60 Tryz.ntmps60 fun a hF => ?_
 have hS := Sep.refl W
 refine rg hF rfl fun a hF => ws fun K2 hK2 => ga 1 hF rfl fun a hF => ?_
 refine ck hF rfl (specPcName_c) ?_; rintro v w1 a ⟨⟨s4, rfl, hp4⟩, hB_⟩ hF; have hS := hS.ext hB_
 refine wl hF rfl rfl rfl (r_neqs (hF.ev rfl) ec) fun a hF => ge hK2 hF rfl fun a hF => ?_
 refine xr ?_
 refine ret1 rfl hF rfl ⟨congrArg Value.bool ?_, hS.old⟩
 show (!(s4.data.toList == [])) = _
 rw [hp4, Bool.not_not]
theorem implIsPc_c {W : World} {pc : Int} : Calls Tryz.prog 71 #[vi pc] W (Ret fun v w' => v = .bool (decide (pc ∈ pcs)) ∧ Below W.heap.size W w') := by
 refine cfr Tryz.func71 Tryz.ntmps71 fun a hF => ?_
 have hS := Sep.refl W
 refine rg hF rfl fun a hF => ws fun K2 hK2 => ga 1 hF rfl fun a hF => ?_
 refine ck hF rfl (implPcName_c) ?_; rintro v w1 a ⟨⟨s4, rfl, hp4⟩, hB_⟩ hF; have hS := hS.ext hB_
 refine wl hF rfl rfl rfl (r_neqs (hF.ev rfl) ec) fun a hF => ge hK2 hF rfl fun a hF => ?_
 refine xr ?_
 refine ret1 rfl hF rfl ⟨congrArg Value.bool ?_, hS.old⟩
 show (!(s4.data.toList == [])) = _
 rw [hp4, Bool.not_not]
set_option maxRecDepth 20000
/-- what is asked of an entry, of a thread, of a state -/
def entOk (c : Config) (e : Entry) : Bool := isEntry e && decide (e.key < c.keys) && decide (indexOf e.handle < c.capacity)
def pcOk (c : Config) (t : Thread) : Prop := (t.pc ∈ pcs ∧ (t.pc = 0 ∨ (t.op.ok ∧ t.op.key < c.keys))) ∧ ¬ ((t.pc = 60 ∨ t.pc = 61) ∧ (t.work.length : Int) = 0) ∧ (t.pc = 50 → 0 ≤ t.at_ ∧ t.at_ ≤ c.threads - 1) ∧ (t.pc = 70 → 0 ≤ t.at_ ∧ t.at_ ≤ 2 * c.threads - 1)
instance (c : Config) (t : Thread) : Decidable (pcOk c t) := by unfold pcOk; infer_instance
def regsOk (c : Config) (t : Thread) : Bool := isLink c t.node && isLink c t.prev && isLink c t.curr && zeroOk c t.next
def sizesOk (t : Thread) : Prop := (0 ≤ t.snapshot ∧ t.snapshot ≤ 99) ∧ (t.buffer.length : Int) ≤ 100 ∧ (t.work.length : Int) ≤ 100 ∧ (t.free.length : Int) ≤ 100 ∧ (t.found.length : Int) ≤ 100 ∧ (t.limbo.length : Int) ≤ 100
instance (t : Thread) : Decidable (sizesOk t) := by unfold sizesOk; infer_instance
def freeOk (c : Config) (t : Thread) : Bool := t.free.all fun x => decide (0 ≤ x ∧ x ≤ c.capacity - 1)
def threadOk (c : Config) (t : Thread) : Bool := freeOk c t && (t.buffer ++ t.work).all (entOk c) && decide (pcOk c t) && regsOk c t && t.limbo.all (isNode c) && decide (sizesOk t)
def gensOk (s : State) : Bool := (List.range s.config.capacity.toNat).all fun i => decide (0 ≤ at0 s.generations i ∧ at0 s.generations i ≤ 9998)
def headsOk (s : State) : Bool := (List.range s.config.keys.toNat).all fun k => isLink s.config (at0 s.cells (headCell s.config k))
def nodesOk (s : State) : Bool := (List.range s.config.capacity.toNat).all fun i => zeroOk s.config (at0 s.cells (nodeCell s.config i 2)) && decide (0 ≤ at0 s.cells (nodeCell s.config i 0) ∧ at0 s.cells (nodeCell s.config i 0) ≤ 99)
def shapeOk (s : State) : Prop := s.config.ok ∧ (s.cells.length : Int) = cellCount s.config ∧ (s.generations.length : Int) = s.config.capacity ∧ (s.threads.length : Int) = s.config.threads
instance (s : State) : Decidable (shapeOk s) := by unfold shapeOk; infer_instance
def countsOk (s : State) : Prop := (1 ≤ at0 s.cells 0 ∧ at0 s.cells 0 ≤ s.config.clockMax) ∧ (0 ≤ at0 s.cells 1 ∧ at0 s.cells 1 ≤ s.config.capacity) ∧ (0 ≤ s.steps ∧ s.steps ≤ 1000000) ∧ (0 ≤ s.changes ∧ s.changes ≤ 1000000) ∧ (0 ≤ s.retries ∧ s.retries ≤ 1000000) ∧ (0 ≤ s.faults ∧ s.faults ≤ 1000000)
instance (s : State) : Decidable (countsOk s) := by unfold countsOk; infer_instance
def stateOk (s : State) : Bool := decide (shapeOk s) && gensOk s && s.threads.all (threadOk s.config) && headsOk s && nodesOk s && decide (countsOk s)
section
variable {α : Type} {c : Config} {e : Entry} {t : Thread} {s : State} {k n : Nat} {p : Nat → Bool} {q : α → Bool} {xs ys : List α} {x : α}
theorem entOk_node : (!isEntry e || decide (c.keys ≤ e.key) || !isNode c e.handle) = !entOk c e := by
 unfold entOk isNode
 cases h : isEntry e with
 | false => rfl
 | true =>
   have h2 : isHandle e.handle = true := by
     unfold isEntry at h
     simp only [Bool.and_eq_true] at h
     exact h.1.1.1.1
   rw [h2, Bool.eq_iff_iff]
   simp
theorem app_1 (a b : Value) : #[a] ++ #[b] = #[a, b] := by simp
theorem range_at (h : k < n) : (List.range n)[k]? = some k := by simp [h]
theorem range_no (h : k < n) (hp : p k = false) : (List.range n).all p = false := List.all_eq_false.2 ⟨k, by simpa using h, by simp [hp]⟩
theorem all_no (hx : xs[k]? = some x) (hp : q x = false) : xs.all q = false := List.all_eq_false.2 ⟨x, List.mem_of_getElem? hx, by simp [hp]⟩
theorem all_nxt (h : (xs.take k).all q = true) (hx : xs[k]? = some x) (hp : q x = true) : (xs.take (k + 1)).all q = true := by
 rw [List.take_add_one, hx, List.all_append, h]; simp [hp]
theorem all_done (h : (xs.take k).all q = true) (hk : xs.length ≤ k) : xs.all q = true := by
 rwa [List.take_of_length_le hk] at h
theorem any_not : xs.any (fun x => !q x) = !xs.all q := by rw [List.all_eq_not_any_not, Bool.not_not]
theorem at0_app1 [Inhabited α] (h : (k : Int) < xs.length) : at0 (xs ++ ys) (k : Int) = at0 xs (k : Int) := by
 unfold at0; rw [Int.toNat_natCast, List.getElem?_append_left (by omega)]
theorem at0_app2 [Inhabited α] (h : ¬ (k : Int) < xs.length) : at0 (xs ++ ys) (k : Int) = at0 ys ((k : Int) - xs.length) := by
 unfold at0
 rw [Int.toNat_natCast, List.getElem?_append_right (by omega), show ((k : Int) - xs.length).toNat = k - xs.length by omega]
end
theorem isNode_c {W : World} {c : Config} {h : Int} (h1 : int64 h) : Calls Tryz.prog 68 #[.agg c.enc.toArray, vi h] W (Ret fun v w' => v = .bool (isNode c h) ∧ Below W.heap.size W w') := by
 refine cfr Tryz.func68 Tryz.ntmps68 fun a hF => ?_
 have hS := Sep.refl W
 refine ws fun K1 hK1 => wl_box (cs := [_, _, _, _, _, _]) hF hS rfl (hF.ev rfl) rfl fun g1 w1 a hS _ hF => ge hK1 hF rfl fun a hF => wp_seq_k fun K2 hK2 => wp_region_calm (by kernel_rfl) (by kernel_rfl) <| qa 1 hF tk rfl fun a hF => qk hF rfl (fun w_ hB_ => implIsHandle_c h1) fun a hF => ?_
 refine qa 1 hF tk rfl fun a hF => ?_
 apply wq_and (A := [_, _, _, _, _, _]) (pk := 13) hF (tc := 7) rfl
 ·
  intro hg7 a hF; try simp only [zb] at hg7
  refine qa 1 hF tk rfl fun a hF => qk hF rfl (fun w_ hB_ => implIndexOf_c h1) fun a hF => qb 4 0 hF tk hS rfl rfl rfl fun a hF => ?_
  exact wpQuiet_nil ((Fr.pre (A := [_, _, _, _, _, _]) hF rfl).keep hF (t := 13) rfl)
 ·
  intro hg7 a hF; try simp only [zb] at hg7
  refine qa 6 hF tk rfl fun a hF => ?_
  exact wpQuiet_nil ((Fr.pre (A := [_, _, _, _, _, _]) hF rfl).keep hF (t := 13) rfl)
 intro a hF
 refine qa 1 hF tk rfl fun a hF => ?_
 refine wpQuiet_nil ?_; intro w3 hB_; have hS := hS.ext hB_
 refine hK2 _ _ ?_
 refine xr ?_
 exact ret1 rfl hF rfl ⟨rfl, hS.old⟩
theorem isLink_c {W : World} {c : Config} {h : Int} (h1 : int64 h) : Calls Tryz.prog 43 #[.agg c.enc.toArray, vi h] W (Ret fun v w' => v = .bool (isLink c h) ∧ Below W.heap.size W w') := by
 refine cfr Tryz.func43 Tryz.ntmps43 fun a hF => ?_
 have hS := Sep.refl W
 refine ws fun K1 hK1 => wl_box (cs := [_, _, _, _, _, _]) hF hS rfl (hF.ev rfl) rfl fun g1 w1 a hS _ hF => ge hK1 hF rfl fun a hF => ws fun K2 hK2 => ga 3 hF rfl fun a hF => ?_
 apply wo 9 7 16 hF hS
 ·
  intro hg7 a hF
  refine gb 2 0 hF hS rfl rfl rfl fun a hF => ckr hF hS rfl (isNode_c h1) fun w2 a hS hF => ga 1 hF rfl fun a hF => ?_
  apply wa 4 11 15 hF hS
  ·
   intro hg11 a hF
   refine ga 1 hF rfl fun a hF => ckr hF hS rfl (implIsMarked_c h1) fun w3 a hS hF => ?_
   exact je 4 hF hS rfl rfl rfl rfl
  intro a w4 hF hS
  exact je 6 hF hS rfl rfl rfl rfl
 intro a w5 hF hS
 refine ge hK2 hF rfl fun a hF => ?_
 refine xr ?_
 exact ret1 rfl hF rfl ⟨rfl, hS.old⟩
theorem l8Zero_c {W : World} {c : Config} {h : Int} (h1 : int64 h) : Calls Tryz.prog 33 #[.agg c.enc.toArray, vi h] W (Ret fun v w' => v = .bool (zeroOk c h) ∧ Below W.heap.size W w') := by
 refine cfr Tryz.func33 Tryz.ntmps33 fun a hF => ?_
 have hS := Sep.refl W
 refine ws fun K1 hK1 => wl_box (cs := [_, _, _, _, _, _]) hF hS rfl (hF.ev rfl) rfl fun g1 w1 a hS _ hF => ge hK1 hF rfl fun a hF => ws fun K2 hK2 => ga 1 hF rfl fun a hF => ckr hF hS rfl (specUnmarked_c h1) fun w2 a hS hF => ge hK2 hF rfl fun a hF => ?_
 refine wp_seq_k fun K3 hK3 => wp_region_calm (by kernel_rfl) (by kernel_rfl) <| qa 3 hF tk rfl fun a hF => ?_
 apply wq_or (A := [_, _, _, _, _, _, _, _, _, _]) (pk := 20) hF (tc := 10) rfl
 ·
  intro hg10 a hF; try simp only [zb] at hg10
  refine qa 1 hF tk rfl fun a hF => qk hF rfl (fun w_ hB_ => specIsHandle_c (int64_unmarked h1)) fun a hF => qa 1 hF tk rfl fun a hF => ?_
  apply wq_and (A := [_, _, _, _, _, _]) (pk := 19) hF (tc := 13) rfl
  ·
   intro hg13 a hF; try simp only [zb] at hg13
   refine qa 1 hF tk rfl fun a hF => qk hF rfl (fun w_ hB_ => specIndexOf_c (int64_unmarked h1)) fun a hF => qb 4 0 hF tk hS rfl rfl rfl fun a hF => ?_
   exact wpQuiet_nil ((Fr.pre (A := [_, _, _, _, _, _]) hF rfl).keep hF (t := 19) rfl)
  ·
   intro hg13 a hF; try simp only [zb] at hg13
   refine qa 6 hF tk rfl fun a hF => ?_
   exact wpQuiet_nil ((Fr.pre (A := [_, _, _, _, _, _]) hF rfl).keep hF (t := 19) rfl)
  intro a hF
  refine qa 1 hF tk rfl fun a hF => ?_
  exact wpQuiet_nil ((Fr.pre (A := [_, _, _, _, _]) hF rfl).keep hF (t := 20) rfl)
 ·
  intro hg10 a hF; try simp only [zb] at hg10
  refine qa 10 hF tk rfl fun a hF => ?_
  exact wpQuiet_nil ((Fr.pre (A := [_, _, _, _, _, _, _, _, _, _]) hF rfl).keep hF (t := 20) rfl)
 intro a hF
 refine qa 1 hF tk rfl fun a hF => ?_
 refine wpQuiet_nil ?_; intro w5 hB_; have hS := hS.ext hB_
 refine hK3 _ _ ?_
 refine xr ?_
 exact ret1 rfl hF rfl ⟨rfl, hS.old⟩
theorem l8Handles_c {W : World} {c : Config} {va : Value} {xs : List Int} (ha : intEK.Rd W va xs) (hw : ∀ x ∈ xs, int64 x) : Calls Tryz.prog 62 #[.agg c.enc.toArray, va] W (Ret fun v w' => v = .bool (xs.all (isNode c) && decide ((xs.length : Int) ≤ 100)) ∧ Below W.heap.size W w') := by
 refine cfr Tryz.func62 Tryz.ntmps62 fun a hF => ?_
 have hS := Sep.refl W
 obtain ⟨A_a, q_a, rfl, hq_a, hn_a⟩ := ha.sl; unfold maxLen at hn_a
 refine ws fun K1 hK1 => wl_box (cs := [_, _, _, _, _, _]) hF hS rfl (hF.ev rfl) rfl fun g1 w1 a hS _ hF => ge hK1 hF rfl fun a hF => wp_seq_k fun K2 hK2 => rg hF rfl fun a hF => wp_block ?_
 have hL_ := (((hF.nil.keep hF (t := 4) rfl).keep hF (t := 2) rfl).keep hF (t := 1) rfl)
 refine wp_loop_r (σ := Nat) (fun k L_ => (5, vi k) :: L_) (fun k => (k ≤ xs.length) ∧ ((xs.take k).all (isNode c) = true)) (fun k => xs.length - k) 0 hS (hL_.keepE hF (t := 5) rfl rfl) ?_ ?_
 · exact ⟨Nat.zero_le _, rfl⟩
 rintro k a w2 ⟨hk, hn⟩ hS hF; try dsimp only at hF; try dsimp only at hS
 refine wp_seq_k fun K4 hK4 => rg hF rfl fun a hF => cx 9 hF rfl (fun c9 hF => ?_) fun c9 hF => ?_
 ·
  have hlt : k < xs.length := by omega
  have hx := at0_nat hlt
  have h1 : int64 (at0 xs (k : Int)) := hw _ (at0_mem (by omega) (by omega))
  refine wp_skip <| hK4 _ _ <| wp_seq_k fun K6 hK6 => wp_block <| wp_seq_k fun K7 hK7 => wp_region_calm (by kernel_rfl) (by kernel_rfl) <| qa 2 hF tk rfl fun a hF => ?_
  obtain ⟨g14, o14, m14, q14, hv14, hm14, hl14, hc14⟩ := Rd.atF (ha) (a := a) (X := .tmp 13) (hF.ev rfl) (by omega) (by omega)
  refine wq hF rfl rfl rfl (fun w_ hB_ => r_index sl24 ((hF.ev rfl).trans hv14) (hF.ev rfl) (by omega) (by first | omega | (simp at hm14; omega))) fun a hF => ?_
  refine wq hF rfl rfl rfl (fun w_ hB_ => r_load1 sc3 (hF.ev rfl) (cellB (hS.ext hB_).old (hc14 0 _ rfl))) fun a hF => qk hF rfl (fun w_ hB_ => specIsHandle_c h1) fun a hF => qa 2 hF tk rfl fun a hF => ?_
  apply wq_or (A := [_, _, _, _, _, _, _, _, _]) (pk := 27) hF (tc := 18) rfl
  ·
   intro hg18 a hF; try simp only [zb] at hg18
   refine qa 2 hF tk rfl fun a hF => wq_take hF rfl rfl rfl rfl ?_
   obtain ⟨g21, o21, m21, q21, hv21, hm21, hl21, hc21⟩ := Rd.atF (ha) (a := a) (X := .tmp 20) (hF.ev rfl) (by omega) (by omega)
   refine wq hF rfl rfl rfl (fun w_ hB_ => r_index sl24 ((hF.ev rfl).trans hv21) (hF.ev rfl) (by omega) (by first | omega | (simp at hm21; omega))) fun a hF => ?_
   refine wq_take hF rfl rfl rfl rfl <| wq hF rfl rfl rfl (fun w_ hB_ => r_load1 sc3 (hF.ev rfl) (cellB (hS.ext hB_).old (hc21 0 _ rfl))) fun a hF => qk hF rfl (fun w_ hB_ => specIndexOf_c h1) fun a hF => qb 4 0 hF tk hS rfl rfl rfl fun a hF => ?_
   exact wpQuiet_nil ((Fr.pre (A := [_, _, _, _, _, _, _, _, _]) hF rfl).keep hF (t := 27) rfl)
  ·
   intro hg18 a hF; try simp only [zb] at hg18
   refine qa 9 hF tk rfl fun a hF => ?_
   exact wpQuiet_nil ((Fr.pre (A := [_, _, _, _, _, _, _, _, _]) hF rfl).keep hF (t := 27) rfl)
  intro a hF
  refine wpQuiet_nil ?_; intro w4 hB_; have hS := hS.ext hB_
  refine hK7 _ _ <| cx 27 hF rfl (fun c27 hF => ?_) fun c27 hF => ?_
  ·
   refine rg hF rfl fun a hF => ?_
   refine xr ?_
   first
     | (refine ret1 rfl hF rfl ⟨?_, hS.old⟩; rw [all_no (q := isNode c) hx (by unfold isNode; rcases c27 with c27 | c27 <;> simp [c27]), Bool.false_and])
     | (refine ret1 rfl hF rfl ⟨?_, hS.old⟩; rw [all_done hn (by omega), Bool.true_and])
  refine wp_skip ?_
  refine xt ?_
  refine hK6 _ _ <| rl hF rfl fun a hF => ?_
  refine xt ?_
  refine ⟨k + 1, ⟨by omega, all_nxt hn hx (by unfold isNode; simp [c27]; omega)⟩, hS, ((((hF.nil.keep hF (t := 4) rfl).keep hF (t := 2) rfl).keep hF (t := 1) rfl).keepE hF (t := 5) rfl (wk (by omega))), by omega⟩
 refine wp_exit ?_
 refine xt ?_
 refine hK2 _ _ <| rg hF rfl fun a hF => ?_
 refine xr ?_
 first
   | (refine ret1 rfl hF rfl ⟨?_, hS.old⟩; rw [all_no (q := isNode c) hx (by unfold isNode; rcases c27 with c27 | c27 <;> simp [c27]), Bool.false_and])
   | (refine ret1 rfl hF rfl ⟨?_, hS.old⟩; rw [all_done hn (by omega), Bool.true_and])
theorem areEntries1_c {W : World} {c : Config} {g : Nat} {x : Entry} (hw : x.wf) (hc : ∀ j u, c.enc[j]? = some u → W.cell? ⟨g, 0 + j, none⟩ = some u) : Calls Tryz.prog 91 #[.agg x.enc.toArray, .pointer (some ⟨g, 0, none⟩)] W (Ret fun v w' => v = .bool (!entOk c x) ∧ Below W.heap.size W w') := by
 refine cfr Tryz.func91 Tryz.ntmps91 fun a hF => ?_
 have hS := Sep.refl W
 refine ws fun K1 hK1 => wl_box (cs := [_, _, _, _]) hF hS rfl (hF.ev rfl) rfl fun g1 w1 a hS _ hF => ge hK1 hF rfl fun a hF => ws fun K2 hK2 => gb 1 0 hF hS rfl rfl rfl fun a hF => ckr hF hS rfl (implIsEntry_c hw) fun w2 a hS hF => ga 2 hF rfl fun a hF => ?_
 apply wo 6 7 13 hF hS
 ·
  intro hg7 a hF
  refine gb 3 0 hF hS rfl rfl rfl fun a hF => wl_take hF rfl rfl rfl rfl <| wl hF rfl rfl rfl (r_load1 sc3 (hF.ev rfl) (cellB hS.old (hc 1 _ rfl))) fun a hF => ?_
  exact je 6 hF hS rfl rfl rfl rfl
 intro a w3 hF hS
 refine ga 1 hF rfl fun a hF => ?_
 apply wo 6 14 20 hF hS
 ·
  intro hg14 a hF
  refine wl_take hF rfl rfl rfl rfl <| wl hF rfl rfl rfl (r_loadn ag30 (hF.ev rfl) (fun j_ u_ hu_ => cellB hS.old (hc j_ u_ hu_)) sz30) fun a hF => gb 2 0 hF hS rfl rfl rfl fun a hF => ckr hF hS rfl (isNode_c hw.1) fun w4 a hS hF => ?_
  exact je 6 hF hS rfl rfl rfl rfl
 intro a w5 hF hS
 refine ge hK2 hF rfl fun a hF => ?_
 refine xr ?_
 refine ret1 rfl hF rfl ⟨?_, hS.old⟩
 rw [← entOk_node]
theorem indexFuncE_c {W : World} {va : Value} {xs : List Entry} {f : FuncId} {cap : Array Value} {p : Entry → Bool} (ha : entryEK.Rd W va xs) (hen : enterB Tryz.prog f = true) (hf : ∀ (w : World) (x : Entry), x ∈ xs → Below W.heap.size W w → Calls Tryz.prog f (#[.agg x.enc.toArray] ++ cap) w (Ret fun v w' => v = .bool (p x) ∧ Below w.heap.size w w')) : Calls Tryz.prog 112 #[va, .func (.func f) #[] cap] W (Ret fun v w' => (∃ j : Int, v = vi j ∧ (0 ≤ j ↔ xs.any p = true)) ∧ Below W.heap.size W w') := by
 refine cfr Tryz.func112 Tryz.ntmps112 fun a hF => ?_
 obtain ⟨A_a, q_a, rfl, hq_a, hn_a⟩ := ha.sl; unfold maxLen at hn_a
 have hS := Sep.refl W
 refine rg hF rfl fun a hF => wp_seq_k fun K2 hK2 => rg hF rfl fun a hF => wp_block <| wp_loop_g (σ := Nat) (fun k a w => k ≤ xs.length ∧ (xs.take k).any p = false ∧ Sep W [] w ∧ Fr 19 [(8, vi k), (7, vi xs.length), (1, .func (.func f) #[] cap), (0, .slice A_a xs.length q_a)] a) (fun k => xs.length - k) 0 ?_ ?_
 · exact ⟨Nat.zero_le _, by simp, hS, ((((hF.nil.keep hF (t := 0) rfl).keep hF (t := 1) rfl).keep hF (t := 7) rfl).keep hF (t := 8) rfl)⟩
 rintro k a w ⟨hk, hn, hS, hF⟩
 refine rg hF rfl fun a hF => wp_seq_k fun K5 hK5 => ?_
 first | refine wc_dec (hF.ev rfl) (fun c9 => ?_) (fun c9 => ?_) | refine wc_ndec (hF.ev rfl) (fun c9 => ?_) (fun c9 => ?_) | refine wc_b (hF.ev rfl) (fun c9 => ?_) (fun c9 => ?_)
 ·
  have hlt : k < xs.length := by omega
  obtain ⟨x, hx⟩ : ∃ x, xs[k]? = some x := ⟨_, List.getElem?_eq_getElem hlt⟩
  refine wp_skip <| hK5 _ _ <| wp_seq_k fun K6 hK6 => wp_block <| rg hF rfl fun a hF => ws fun K8 hK8 => ga 3 hF rfl fun a hF => ?_
  obtain ⟨g14, o14, m14, q14, hv14, hm14, hl14, hc14⟩ := Rd.idxF (hS.rd ha) hx
  refine wl hF rfl rfl rfl (r_index sl66 ((hF.ev rfl).trans hv14) (hF.ev rfl) (by omega) (by omega)) fun a hF => wl hF rfl rfl rfl (r_loadn ag92 (hF.ev rfl) (hc14) sz92) fun a hF => ?_
  refine wl_call hF rfl rfl rfl (r_callv1 hen (hF.ev rfl) (hF.ev rfl)) (hf _ x (List.mem_of_getElem? hx) hS.old) ?_; rintro v w1 a ⟨rfl, hB_⟩ hF; have hS := hS.ext hB_
  refine wl_nil (hK8 _ _ ?_)
  first | refine wc_dec (hF.ev rfl) (fun c16 => ?_) (fun c16 => ?_) | refine wc_ndec (hF.ev rfl) (fun c16 => ?_) (fun c16 => ?_) | refine wc_b (hF.ev rfl) (fun c16 => ?_) (fun c16 => ?_)
  ·
   refine rg hF rfl fun a hF => ?_
   refine xr ?_
   first | exact ret1 rfl hF rfl ⟨⟨_, rfl, ⟨fun _ => any_at hx c16, fun _ => by omega⟩⟩, hS.old⟩ | exact ret1 rfl hF rfl ⟨⟨_, rfl, ⟨fun h => absurd h (by omega), fun h => absurd h (by rw [any_all hn hk (by assumption)]; decide)⟩⟩, hS.old⟩
  refine wp_skip ?_
  refine xt ?_
  refine hK6 _ _ <| rl hF rfl fun a hF => ?_
  refine xt ?_
  exact ⟨k + 1, ⟨by omega, any_next hn hx c16, hS, ((((hF.nil.keep hF (t := 0) rfl).keep hF (t := 1) rfl).keep hF (t := 7) rfl).keepE hF (t := 8) rfl (wk (by omega)))⟩, by omega⟩
 refine wp_exit ?_
 refine xt ?_
 refine hK2 _ _ <| rg hF rfl fun a hF => ?_
 refine xr ?_
 first | exact ret1 rfl hF rfl ⟨⟨_, rfl, ⟨fun _ => any_at hx c16, fun _ => by omega⟩⟩, hS.old⟩ | exact ret1 rfl hF rfl ⟨⟨_, rfl, ⟨fun h => absurd h (by omega), fun h => absurd h (by rw [any_all hn hk (by assumption)]; decide)⟩⟩, hS.old⟩
theorem containsFuncE_c {W : World} {va : Value} {xs : List Entry} {f : FuncId} {cap : Array Value} {p : Entry → Bool} (ha : entryEK.Rd W va xs) (hen : enterB Tryz.prog f = true) (hf : ∀ (w : World) (x : Entry), x ∈ xs → Below W.heap.size W w → Calls Tryz.prog f (#[.agg x.enc.toArray] ++ cap) w (Ret fun v w' => v = .bool (p x) ∧ Below w.heap.size w w')) : Calls Tryz.prog 90 #[va, .func (.func f) #[] cap] W (Ret fun v w' => v = .bool (xs.any p) ∧ Below W.heap.size W w') := by
 refine cfr Tryz.func90 Tryz.ntmps90 fun a hF => ?_
 have hS := Sep.refl W
 refine rg hF rfl fun a hF => ws fun K2 hK2 => ga 2 hF rfl fun a hF => ?_
 refine ck hF rfl (indexFuncE_c (hS.rd ha) hen hf) ?_; rintro v w1 a ⟨⟨j, rfl, hj⟩, hB_⟩ hF; have hS := hS.ext hB_
 refine ge hK2 hF rfl fun a hF => ?_
 refine xr ?_
 refine ret1 rfl hF rfl ⟨congrArg Value.bool ?_, hS.old⟩
 cases hb : xs.any p with
 | true => exact decide_eq_true (hj.2 hb)
 | false => exact decide_eq_false (fun h => by rw [hj.1 h] at hb; cases hb)
theorem indexFuncI_c {W : World} {va : Value} {xs : List Int} {f : FuncId} {cap : Array Value} {p : Int → Bool} (ha : intEK.Rd W va xs) (hen : enterB Tryz.prog f = true) (hf : ∀ (w : World) (x : Int), x ∈ xs → Below W.heap.size W w → Calls Tryz.prog f (#[vi x] ++ cap) w (Ret fun v w' => v = .bool (p x) ∧ Below w.heap.size w w')) : Calls Tryz.prog 93 #[va, .func (.func f) #[] cap] W (Ret fun v w' => (∃ j : Int, v = vi j ∧ (0 ≤ j ↔ xs.any p = true)) ∧ Below W.heap.size W w') := by
 refine cfr Tryz.func93 Tryz.ntmps93 fun a hF => ?_
 obtain ⟨A_a, q_a, rfl, hq_a, hn_a⟩ := ha.sl; unfold maxLen at hn_a
 have hS := Sep.refl W
 refine rg hF rfl fun a hF => wp_seq_k fun K2 hK2 => rg hF rfl fun a hF => wp_block <| wp_loop_g (σ := Nat) (fun k a w => k ≤ xs.length ∧ (xs.take k).any p = false ∧ Sep W [] w ∧ Fr 19 [(8, vi k), (7, vi xs.length), (1, .func (.func f) #[] cap), (0, .slice A_a xs.length q_a)] a) (fun k => xs.length - k) 0 ?_ ?_
 · exact ⟨Nat.zero_le _, by simp, hS, ((((hF.nil.keep hF (t := 0) rfl).keep hF (t := 1) rfl).keep hF (t := 7) rfl).keep hF (t := 8) rfl)⟩
 rintro k a w ⟨hk, hn, hS, hF⟩
 refine rg hF rfl fun a hF => wp_seq_k fun K5 hK5 => ?_
 first | refine wc_dec (hF.ev rfl) (fun c9 => ?_) (fun c9 => ?_) | refine wc_ndec (hF.ev rfl) (fun c9 => ?_) (fun c9 => ?_) | refine wc_b (hF.ev rfl) (fun c9 => ?_) (fun c9 => ?_)
 ·
  have hlt : k < xs.length := by omega
  obtain ⟨x, hx⟩ : ∃ x, xs[k]? = some x := ⟨_, List.getElem?_eq_getElem hlt⟩
  refine wp_skip <| hK5 _ _ <| wp_seq_k fun K6 hK6 => wp_block <| rg hF rfl fun a hF => ws fun K8 hK8 => ga 3 hF rfl fun a hF => ?_
  obtain ⟨g14, o14, m14, q14, hv14, hm14, hl14, hc14⟩ := Rd.idxF (hS.rd ha) hx
  refine wl hF rfl rfl rfl (r_index sl24 ((hF.ev rfl).trans hv14) (hF.ev rfl) (by omega) (by omega)) fun a hF => wl hF rfl rfl rfl (r_load1 sc3 (hF.ev rfl) (hc14 0 _ rfl)) fun a hF => ?_
  refine wl_call hF rfl rfl rfl (r_callv1 hen (hF.ev rfl) (hF.ev rfl)) (hf _ x (List.mem_of_getElem? hx) hS.old) ?_; rintro v w1 a ⟨rfl, hB_⟩ hF; have hS := hS.ext hB_
  refine wl_nil (hK8 _ _ ?_)
  first | refine wc_dec (hF.ev rfl) (fun c16 => ?_) (fun c16 => ?_) | refine wc_ndec (hF.ev rfl) (fun c16 => ?_) (fun c16 => ?_) | refine wc_b (hF.ev rfl) (fun c16 => ?_) (fun c16 => ?_)
  ·
   refine rg hF rfl fun a hF => ?_
   refine xr ?_
   first | exact ret1 rfl hF rfl ⟨⟨_, rfl, ⟨fun _ => any_at hx c16, fun _ => by omega⟩⟩, hS.old⟩ | exact ret1 rfl hF rfl ⟨⟨_, rfl, ⟨fun h => absurd h (by omega), fun h => absurd h (by rw [any_all hn hk (by assumption)]; decide)⟩⟩, hS.old⟩
  refine wp_skip ?_
  refine xt ?_
  refine hK6 _ _ <| rl hF rfl fun a hF => ?_
  refine xt ?_
  exact ⟨k + 1, ⟨by omega, any_next hn hx c16, hS, ((((hF.nil.keep hF (t := 0) rfl).keep hF (t := 1) rfl).keep hF (t := 7) rfl).keepE hF (t := 8) rfl (wk (by omega)))⟩, by omega⟩
 refine wp_exit ?_
 refine xt ?_
 refine hK2 _ _ <| rg hF rfl fun a hF => ?_
 refine xr ?_
 first | exact ret1 rfl hF rfl ⟨⟨_, rfl, ⟨fun _ => any_at hx c16, fun _ => by omega⟩⟩, hS.old⟩ | exact ret1 rfl hF rfl ⟨⟨_, rfl, ⟨fun h => absurd h (by omega), fun h => absurd h (by rw [any_all hn hk (by assumption)]; decide)⟩⟩, hS.old⟩
theorem containsFuncI_c {W : World} {va : Value} {xs : List Int} {f : FuncId} {cap : Array Value} {p : Int → Bool} (ha : intEK.Rd W va xs) (hen : enterB Tryz.prog f = true) (hf : ∀ (w : World) (x : Int), x ∈ xs → Below W.heap.size W w → Calls Tryz.prog f (#[vi x] ++ cap) w (Ret fun v w' => v = .bool (p x) ∧ Below w.heap.size w w')) : Calls Tryz.prog 74 #[va, .func (.func f) #[] cap] W (Ret fun v w' => v = .bool (xs.any p) ∧ Below W.heap.size W w') := by
 refine cfr Tryz.func74 Tryz.ntmps74 fun a hF => ?_
 have hS := Sep.refl W
 refine rg hF rfl fun a hF => ws fun K2 hK2 => ga 2 hF rfl fun a hF => ?_
 refine ck hF rfl (indexFuncI_c (hS.rd ha) hen hf) ?_; rintro v w1 a ⟨⟨j, rfl, hj⟩, hB_⟩ hF; have hS := hS.ext hB_
 refine ge hK2 hF rfl fun a hF => ?_
 refine xr ?_
 refine ret1 rfl hF rfl ⟨congrArg Value.bool ?_, hS.old⟩
 cases hb : xs.any p with
 | true => exact decide_eq_true (hj.2 hb)
 | false => exact decide_eq_false (fun h => by rw [hj.1 h] at hb; cases hb)
theorem areEntries_c {W : World} {c : Config} {va : Value} {xs : List Entry} (ha : entryEK.Rd W va xs) (hw : ∀ x ∈ xs, x.wf) : Calls Tryz.prog 73 #[.agg c.enc.toArray, va] W (Ret fun v w' => v = .bool (decide ((xs.length : Int) ≤ 100) && xs.all (entOk c)) ∧ Below W.heap.size W w') := by
 refine cfr Tryz.func73 Tryz.ntmps73 fun a hF => ?_
 have hS := Sep.refl W
 obtain ⟨A_a, q_a, rfl, hq_a, hn_a⟩ := ha.sl; unfold maxLen at hn_a
 refine ws fun K1 hK1 => wl_box (cs := [_, _, _, _, _, _]) hF hS rfl (hF.ev rfl) rfl fun g1 w1 a hS _ hF => ge hK1 hF rfl fun a hF => ws fun K2 hK2 => ga 4 hF rfl fun a hF => ?_
 apply wa 5 8 13 hF hS
 ·
  intro hg8 a hF
  refine ga 1 hF rfl fun a hF => wl_take hF rfl rfl rfl rfl ?_
  refine wl hF rfl rfl rfl (r_makeFunc (by simp only [List.map_toArray, List.map_cons, List.map_nil]; rw [hF.ev rfl])) fun a hF => ?_
  refine ckr hF hS rfl (containsFuncE_c (p := fun e => !entOk c e) (cap := #[.pointer (some ⟨g1, 0, none⟩)]) (hS.rd ha) (by kernel_rfl) (fun w_ x hx hB => by rw [app_1]; exact areEntries1_c (hw x hx) (fun j u hu => cellB hB (hS.box_rd (i := 0) rfl j u hu)))) fun w2 a hS hF => ?_
  exact je 5 hF hS rfl rfl rfl rfl
 intro a w3 hF hS
 refine ge hK2 hF rfl fun a hF => ?_
 refine xr ?_
 refine ret1 rfl hF rfl ⟨?_, hS.old⟩
 rw [any_not, Bool.not_not]
theorem isThread1_c {W : World} {c : Config} {g : Nat} {x : Int} (hc : ∀ j u, c.enc[j]? = some u → W.cell? ⟨g, 0 + j, none⟩ = some u) (hok : c.ok) : Calls Tryz.prog 75 #[vi x, .pointer (some ⟨g, 0, none⟩)] W (Ret fun v w' => v = .bool (!decide (0 ≤ x ∧ x ≤ c.capacity - 1)) ∧ Below W.heap.size W w') := by
 refine cfr Tryz.func75 Tryz.ntmps75 fun a hF => ?_
 have hS := Sep.refl W
 have hb := hok; unfold Config.ok at hb
 have hw1 : IntKind.i64.wrap (c.threads - 1) = c.threads - 1 := w64_id (by omega) (by omega)
 have hw2 : IntKind.i64.wrap (c.capacity - 1) = c.capacity - 1 := w64_id (by omega) (by omega)
 have hw3 : IntKind.i64.wrap (IntKind.i64.wrap (2 * c.threads) - 1) = 2 * c.threads - 1 := by rw [w64_id (q := 2 * c.threads) (by omega) (by omega)]; exact w64_id (by omega) (by omega)
 refine rg hF rfl fun a hF => ws fun K2 hK2 => ga 2 hF rfl fun a hF => wl hF rfl rfl rfl (r_load1 sc3 (hF.ev rfl) (cellB hS.old (hc 2 _ rfl))) fun a hF => ga 1 hF rfl fun a hF => ckr hF hS rfl (in_c _ _ _) fun w1 a hS hF => ge hK2 hF rfl fun a hF => ?_
 refine xr ?_
 refine ret1 rfl hF rfl ⟨?_, hS.old⟩
 rw [hw2]
theorem isThread2_c {W : World} {c : Config} {g : Nat} {x : Int} (hc : ∀ j u, c.enc[j]? = some u → W.cell? ⟨g, 0 + j, none⟩ = some u) (h1 : int64 x) : Calls Tryz.prog 76 #[vi x, .pointer (some ⟨g, 0, none⟩)] W (Ret fun v w' => v = .bool (!isNode c x) ∧ Below W.heap.size W w') := by
 refine cfr Tryz.func76 Tryz.ntmps76 fun a hF => ?_
 have hS := Sep.refl W
 refine rg hF rfl fun a hF => ws fun K2 hK2 => wl hF rfl rfl rfl (r_loadn ag30 (hF.ev rfl) (fun j_ u_ hu_ => cellB hS.old (hc j_ u_ hu_)) sz30) fun a hF => ga 1 hF rfl fun a hF => ckr hF hS rfl (isNode_c h1) fun w1 a hS hF => ge hK2 hF rfl fun a hF => ?_
 refine xr ?_
 exact ret1 rfl hF rfl ⟨rfl, hS.old⟩
set_option maxRecDepth 20000
section
variable {c : Config} {t : Thread}
theorem th_no (h : ¬ pcOk c t) : threadOk c t = false := by unfold threadOk; rw [decide_eq_false h]; simp
theorem th_no1 (h : ¬t.pc ∈ pcs ∨ ¬t.pc = 0 ∧ (¬t.op.ok ∨ c.keys ≤ t.op.key)) : threadOk c t = false := th_no fun hp => by
  obtain ⟨⟨h1, h2⟩, _⟩ := hp
  rcases h with h | ⟨h3, h | h⟩
  · exact h h1
  · rcases h2 with h2 | h2
    · exact h3 h2
    · exact h h2.1
  · rcases h2 with h2 | h2
    · exact h3 h2
    · have := h2.2; omega
theorem th_no2 (h : (t.pc = 60 ∨ t.pc = 61) ∧ (t.work.length : Int) = 0) : threadOk c t = false := th_no fun hp => hp.2.1 h
theorem th_no4 (h : t.pc = 50 ∧ ¬(0 ≤ t.at_ ∧ t.at_ ≤ c.threads - 1)) : threadOk c t = false := th_no fun hp => h.2 (hp.2.2.1 h.1)
theorem th_no5 (h : t.pc = 70 ∧ ¬(0 ≤ t.at_ ∧ t.at_ ≤ 2 * c.threads - 1)) : threadOk c t = false := th_no fun hp => h.2 (hp.2.2.2 h.1)
theorem th_no3 (h : (((isLink c t.node = false ∨ isLink c t.prev = false) ∨ isLink c t.curr = false) ∨ isLink c (unmarked t.next) = false) ∨ ¬(0 ≤ t.snapshot ∧ t.snapshot ≤ 99)) : threadOk c t = false := by
 rw [isLink_unmarked] at h
 unfold threadOk
 rcases h with h | h
 · have e : regsOk c t = false := by unfold regsOk; rcases h with ((h | h) | h) | h <;> simp [h]
   rw [e]; simp
 · rw [decide_eq_false (show ¬ sizesOk t from fun hs => h hs.1)]; simp
theorem th_yes (hp : pcOk c t) (h : (((isLink c t.node = true ∧ isLink c t.prev = true) ∧ isLink c t.curr = true) ∧ isLink c (unmarked t.next) = true) ∧ 0 ≤ t.snapshot ∧ t.snapshot ≤ 99) :
    threadOk c t = ((decide ((t.free.length : Int) ≤ 100) && decide ((t.limbo.length : Int) ≤ 100) && decide ((t.found.length : Int) ≤ 100) && (decide ((t.buffer.length : Int) ≤ 100) && t.buffer.all (entOk c)) && (decide ((t.work.length : Int) ≤ 100) && t.work.all (entOk c)) && t.free.all fun x => decide (0 ≤ x ∧ x ≤ c.capacity - 1)) && t.limbo.all (isNode c)) := by
  rw [isLink_unmarked] at h
  have e : regsOk c t = true := by unfold regsOk; simp [h.1.1.1.1, h.1.1.1.2, h.1.1.2, h.1.2]
  unfold threadOk
  rw [decide_eq_true hp, e, Bool.eq_iff_iff]
  simp only [List.all_append, Bool.and_eq_true, decide_eq_true_eq, Bool.and_true]
  unfold freeOk sizesOk
  have := h.2
  constructor
  · rintro ⟨⟨⟨h1, h2, h3⟩, h4⟩, h5, h6, h7, h8, h9, h10⟩
    exact ⟨⟨⟨⟨⟨⟨h8, h10⟩, h9⟩, h6, h2⟩, h7, h3⟩, h1⟩, h4⟩
  · rintro ⟨⟨⟨⟨⟨⟨h8, h10⟩, h9⟩, h6, h2⟩, h7, h3⟩, h1⟩, h4⟩
    exact ⟨⟨⟨h1, h2, h3⟩, h4⟩, this, h6, h7, h8, h9, h10⟩
end
theorem isThread_c {W : World} {c : Config} {t : Sl.Thread} {cs : List Value} (hm : threadEK.K W t cs) (hw : t.wf) (hok : c.ok) : Calls Tryz.prog 49 #[.agg c.enc.toArray, .agg cs.toArray] W (Ret fun v w' => v = .bool (threadOk c t) ∧ Below W.heap.size W w') := by
 refine cfr Tryz.func49 Tryz.ntmps49 fun a hF => ?_
 have hS := Sep.refl W
 obtain ⟨v0, v1, v2, v3, v4, rfl, r0, r1, r2, r3, r4⟩ := hm
 obtain ⟨A_a, q_a, rfl, hq_a, hn_a⟩ := r0.sl; unfold maxLen at hn_a
 obtain ⟨A_b, q_b, rfl, hq_b, hn_b⟩ := r1.sl; unfold maxLen at hn_b
 obtain ⟨A_c, q_c, rfl, hq_c, hn_c⟩ := r2.sl; unfold maxLen at hn_c
 obtain ⟨A_d, q_d, rfl, hq_d, hn_d⟩ := r3.sl; unfold maxLen at hn_d
 obtain ⟨A_e, q_e, rfl, hq_e, hn_e⟩ := r4.sl; unfold maxLen at hn_e
 obtain ⟨wpc, wop, wres, wsnap, wnode, wprev, wcurr, wnext, wseen, wstamp, wat, wfound, wfree, wbuf, wwork, wlimbo⟩ := hw
 have hb := hok; unfold Config.ok at hb
 have hw1 : IntKind.i64.wrap (c.threads - 1) = c.threads - 1 := w64_id (by omega) (by omega)
 have hw2 : IntKind.i64.wrap (c.capacity - 1) = c.capacity - 1 := w64_id (by omega) (by omega)
 have hw3 : IntKind.i64.wrap (IntKind.i64.wrap (2 * c.threads) - 1) = 2 * c.threads - 1 := by rw [w64_id (q := 2 * c.threads) (by omega) (by omega)]; exact w64_id (by omega) (by omega)
 refine ws fun K1 hK1 => wl_box (cs := [_, _, _, _, _, _]) hF hS rfl (hF.ev rfl) rfl fun g1 w1 a hS _ hF => wl_box (cs := [_, _, _, _, _, _, _, _, _, _, _, _, _, _, _, _, _, _, _]) hF hS rfl (hF.ev rfl) rfl fun g2 w2 a hS _ hF => ge hK1 hF rfl fun a hF => wp_seq_k fun K2 hK2 => ws fun K3 hK3 => gb 2 0 hF hS rfl rfl rfl fun a hF => ?_
 refine ckr hF hS rfl (implIsPc_c) fun w3 a hS hF => ga 2 hF rfl fun a hF => ?_
 apply wo 18 9 27 hF hS
 ·
  intro hg9 a hF
  refine gb 4 0 hF hS rfl rfl rfl fun a hF => ?_
  apply wa 13 13 26 hF hS
  ·
   intro hg13 a hF
   refine ga 1 hF rfl fun a hF => wl_take hF rfl rfl rfl rfl <| wl hF rfl rfl rfl (r_loadn ag64 (hF.ev rfl) (hS.boxn (vs := [_, _, _]) (i := 0) (m := 3) rfl rfl) sz64) fun a hF => ckr hF hS rfl (implIsOp_c _) fun w4 a hS hF => ga 2 hF rfl fun a hF => ?_
   apply wo 7 18 25 hF hS
   ·
    intro hg18 a hF
    refine gb 4 0 hF hS rfl rfl rfl fun a hF => wl_take hF rfl rfl rfl rfl ?_
    exact jf 7 1 hF hS rfl rfl rfl rfl rfl rfl
   intro a w5 hF hS
   exact je 7 hF hS rfl rfl rfl rfl
  intro a w6 hF hS
  exact je 6 hF hS rfl rfl rfl rfl
 intro a w7 hF hS
 refine wl_nil <| hK3 _ _ <| cx 27 hF rfl (fun c27 hF => ?_) fun c27 hF => ?_
 ·
  refine rg hF rfl fun a hF => ?_
  refine xr ?_
  refine ret1 rfl hF rfl ⟨congrArg Value.bool (Eq.symm ?_), hS.old⟩
  first
    | exact th_no1 c27
    | exact th_no3 c100
    | (simp only [any_not, Bool.not_not]
       exact th_yes ⟨⟨c27.1, c27.2.imp_right fun h => ⟨h.1, by omega⟩⟩, by omega, fun h => by omega, fun h => by omega⟩ c100)
    | exact th_no2 c28
    | exact th_no4 ⟨c28.1, by have := c28.2; omega⟩
    | exact th_no5 ⟨c28.1, by have := c28.2; omega⟩
 refine wp_skip <| hK2 _ _ <| wp_seq_k fun K5 hK5 => wp_block <| wp_seq_k fun K6 hK6 => ws fun K7 hK7 => gb 4 0 hF hS rfl rfl rfl fun a hF => ?_
 apply wo 4 32 36 hF hS
 ·
  intro hg32 a hF
  exact jf 4 0 hF hS rfl rfl rfl rfl rfl rfl
 intro a w8 hF hS
 refine ga 1 hF rfl fun a hF => ?_
 apply wa 5 37 42 hF hS
 ·
  intro hg37 a hF
  exact jf 5 0 hF hS rfl rfl rfl rfl rfl rfl
 intro a w9 hF hS
 refine ge hK7 hF rfl fun a hF => cx 28 hF rfl (fun c28 hF => ?_) fun c28 hF => ?_
 ·
  refine wp_skip <| hK6 _ _ <| wc_true (hF.ev rfl) <| rg hF rfl fun a hF => ?_
  refine xr ?_
  refine ret1 rfl hF rfl ⟨congrArg Value.bool (Eq.symm ?_), hS.old⟩
  first
    | exact th_no1 c27
    | exact th_no3 c100
    | (simp only [any_not, Bool.not_not]
       exact th_yes ⟨⟨c27.1, c27.2.imp_right fun h => ⟨h.1, by omega⟩⟩, by omega, fun h => by omega, fun h => by omega⟩ c100)
    | exact th_no2 c28
    | exact th_no4 ⟨c28.1, by have := c28.2; omega⟩
    | exact th_no5 ⟨c28.1, by have := c28.2; omega⟩
 refine ws fun K9 hK9 => gb 4 0 hF hS rfl rfl rfl fun a hF => ?_
 apply wa 8 46 54 hF hS
 ·
  intro hg46 a hF
  refine gb 3 0 hF hS rfl rfl rfl fun a hF => wl_take hF rfl rfl rfl rfl <| gb 2 1 hF hS rfl rfl rfl fun a hF => ckr hF hS rfl (in_c _ _ _) fun w10 a hS hF => ?_
  exact je 8 hF hS rfl rfl rfl rfl
 intro a w11 hF hS
 refine ge hK9 hF rfl fun a hF => cx 28 hF rfl (fun c28 hF => ?_) fun c28 hF => ?_
 ·
  refine wp_skip <| hK6 _ _ <| wc_true (hF.ev rfl) <| rg hF rfl fun a hF => ?_
  refine xr ?_
  refine ret1 rfl hF rfl ⟨congrArg Value.bool (Eq.symm ?_), hS.old⟩
  first
    | exact th_no1 c27
    | exact th_no3 c100
    | (simp only [any_not, Bool.not_not]
       exact th_yes ⟨⟨c27.1, c27.2.imp_right fun h => ⟨h.1, by omega⟩⟩, by omega, fun h => by omega, fun h => by omega⟩ c100)
    | exact th_no2 c28
    | exact th_no4 ⟨c28.1, by have := c28.2; omega⟩
    | exact th_no5 ⟨c28.1, by have := c28.2; omega⟩
 refine wp_region_lit <| gb 4 0 hF hS rfl rfl rfl fun a hF => ?_
 apply wa 9 58 67 hF hS
 ·
  intro hg58 a hF
  refine gb 3 0 hF hS rfl rfl rfl fun a hF => wl_take hF rfl rfl rfl rfl <| gb 3 1 hF hS rfl rfl rfl fun a hF => ckr hF hS rfl (in_c _ _ _) fun w12 a hS hF => ?_
  exact je 9 hF hS rfl rfl rfl rfl
 intro a w13 hF hS
 refine ge hK6 hF rfl fun a hF => cx 28 hF rfl (fun c28 hF => ?_) fun c28 hF => ?_
 ·
  refine rg hF rfl fun a hF => ?_
  refine xr ?_
  refine ret1 rfl hF rfl ⟨congrArg Value.bool (Eq.symm ?_), hS.old⟩
  first
    | exact th_no1 c27
    | exact th_no3 c100
    | (simp only [any_not, Bool.not_not]
       exact th_yes ⟨⟨c27.1, c27.2.imp_right fun h => ⟨h.1, by omega⟩⟩, by omega, fun h => by omega, fun h => by omega⟩ c100)
    | exact th_no2 c28
    | exact th_no4 ⟨c28.1, by have := c28.2; omega⟩
    | exact th_no5 ⟨c28.1, by have := c28.2; omega⟩
 refine wp_skip ?_
 refine xt ?_
 refine hK5 _ _ <| wp_seq_k fun K12 hK12 => wp_seq_k fun K13 hK13 => wp_region_calm (by kernel_rfl) (by kernel_rfl) <| qb 2 1 hF tk hS rfl rfl rfl fun a hF => qb 1 0 hF tk hS rfl rfl rfl fun a hF => qk hF rfl (fun w_ hB_ => isLink_c (by first | assumption | exact int64_unmarked wnext)) fun a hF => ?_
 refine qa 2 hF tk rfl fun a hF => ?_
 apply wq_or (A := [_, _, _, _, _, _]) (pk := 79) hF (tc := 73) rfl
 ·
  intro hg73 a hF; try simp only [zb] at hg73
  refine qb 2 1 hF tk hS rfl rfl rfl fun a hF => wq_take hF rfl rfl rfl rfl <| qb 1 0 hF tk hS rfl rfl rfl fun a hF => qk hF rfl (fun w_ hB_ => isLink_c (by first | assumption | exact int64_unmarked wnext)) fun a hF => qa 2 hF tk rfl fun a hF => ?_
  exact wpQuiet_nil ((Fr.pre (A := [_, _, _, _, _, _]) hF rfl).keep hF (t := 79) rfl)
 ·
  intro hg73 a hF; try simp only [zb] at hg73
  refine qa 6 hF tk rfl fun a hF => ?_
  exact wpQuiet_nil ((Fr.pre (A := [_, _, _, _, _, _]) hF rfl).keep hF (t := 79) rfl)
 intro a hF
 refine qa 1 hF tk rfl fun a hF => ?_
 apply wq_or (A := [_, _, _, _, _, _]) (pk := 86) hF (tc := 80) rfl
 ·
  intro hg80 a hF; try simp only [zb] at hg80
  refine qb 2 1 hF tk hS rfl rfl rfl fun a hF => wq_take hF rfl rfl rfl rfl <| qb 1 0 hF tk hS rfl rfl rfl fun a hF => qk hF rfl (fun w_ hB_ => isLink_c (by first | assumption | exact int64_unmarked wnext)) fun a hF => qa 2 hF tk rfl fun a hF => ?_
  exact wpQuiet_nil ((Fr.pre (A := [_, _, _, _, _, _]) hF rfl).keep hF (t := 86) rfl)
 ·
  intro hg80 a hF; try simp only [zb] at hg80
  refine qa 6 hF tk rfl fun a hF => ?_
  exact wpQuiet_nil ((Fr.pre (A := [_, _, _, _, _, _]) hF rfl).keep hF (t := 86) rfl)
 intro a hF
 refine qa 1 hF tk rfl fun a hF => ?_
 apply wq_or (A := [_, _, _, _, _, _, _]) (pk := 94) hF (tc := 87) rfl
 ·
  intro hg87 a hF; try simp only [zb] at hg87
  refine qb 2 1 hF tk hS rfl rfl rfl fun a hF => wq_take hF rfl rfl rfl rfl <| qb 1 0 hF tk hS rfl rfl rfl fun a hF => qk hF rfl (fun w_ hB_ => implUnmarked_c wnext) fun a hF => qk hF rfl (fun w_ hB_ => isLink_c (by first | assumption | exact int64_unmarked wnext)) fun a hF => qa 2 hF tk rfl fun a hF => ?_
  exact wpQuiet_nil ((Fr.pre (A := [_, _, _, _, _, _, _]) hF rfl).keep hF (t := 94) rfl)
 ·
  intro hg87 a hF; try simp only [zb] at hg87
  refine qa 7 hF tk rfl fun a hF => ?_
  exact wpQuiet_nil ((Fr.pre (A := [_, _, _, _, _, _, _]) hF rfl).keep hF (t := 94) rfl)
 intro a hF
 refine qa 1 hF tk rfl fun a hF => ?_
 apply wq_or (A := [_, _, _, _, _]) (pk := 100) hF (tc := 95) rfl
 ·
  intro hg95 a hF; try simp only [zb] at hg95
  refine qb 2 0 hF tk hS rfl rfl rfl fun a hF => qk hF rfl (fun w_ hB_ => in_c _ _ _) fun a hF => qa 2 hF tk rfl fun a hF => ?_
  exact wpQuiet_nil ((Fr.pre (A := [_, _, _, _, _]) hF rfl).keep hF (t := 100) rfl)
 ·
  intro hg95 a hF; try simp only [zb] at hg95
  refine qa 5 hF tk rfl fun a hF => ?_
  exact wpQuiet_nil ((Fr.pre (A := [_, _, _, _, _]) hF rfl).keep hF (t := 100) rfl)
 intro a hF
 refine wpQuiet_nil ?_; intro w18 hB_; have hS := hS.ext hB_
 refine hK13 _ _ <| cx 100 hF rfl (fun c100 hF => ?_) fun c100 hF => ?_
 ·
  refine rg hF rfl fun a hF => ?_
  refine xr ?_
  refine ret1 rfl hF rfl ⟨congrArg Value.bool (Eq.symm ?_), hS.old⟩
  first
    | exact th_no1 c27
    | exact th_no3 c100
    | (simp only [any_not, Bool.not_not]
       exact th_yes ⟨⟨c27.1, c27.2.imp_right fun h => ⟨h.1, by omega⟩⟩, by omega, fun h => by omega, fun h => by omega⟩ c100)
    | exact th_no2 c28
    | exact th_no4 ⟨c28.1, by have := c28.2; omega⟩
    | exact th_no5 ⟨c28.1, by have := c28.2; omega⟩
 refine wp_skip <| hK12 _ _ <| ws fun K15 hK15 => gb 5 0 hF hS rfl rfl rfl fun a hF => ?_
 apply wa 5 105 110 hF hS
 ·
  intro hg105 a hF
  exact jf 5 0 hF hS rfl rfl rfl rfl rfl rfl
 intro a w19 hF hS
 refine ga 1 hF rfl fun a hF => ?_
 apply wa 5 111 116 hF hS
 ·
  intro hg111 a hF
  exact jf 5 0 hF hS rfl rfl rfl rfl rfl rfl
 intro a w20 hF hS
 refine ga 1 hF rfl fun a hF => ?_
 apply wa 5 117 122 hF hS
 ·
  intro hg117 a hF
  refine gb 2 1 hF hS rfl rfl rfl fun a hF => wl_take hF rfl rfl rfl rfl <| gb 1 0 hF hS rfl rfl rfl fun a hF => ckr hF hS rfl (areEntries_c (hS.rd r2) wbuf) fun w21 a hS hF => ?_
  exact je 5 hF hS rfl rfl rfl rfl
 intro a w22 hF hS
 refine ga 1 hF rfl fun a hF => ?_
 apply wa 5 123 128 hF hS
 ·
  intro hg123 a hF
  refine gb 2 1 hF hS rfl rfl rfl fun a hF => wl_take hF rfl rfl rfl rfl <| gb 1 0 hF hS rfl rfl rfl fun a hF => ckr hF hS rfl (areEntries_c (hS.rd r3) wwork) fun w23 a hS hF => ?_
  exact je 5 hF hS rfl rfl rfl rfl
 intro a w24 hF hS
 refine ga 1 hF rfl fun a hF => ?_
 apply wa 6 129 135 hF hS
 ·
  intro hg129 a hF
  refine gb 2 0 hF hS rfl rfl rfl fun a hF => wl_take hF rfl rfl rfl rfl ?_
  refine wl hF rfl rfl rfl (r_makeFunc (by simp only [List.map_toArray, List.map_cons, List.map_nil]; rw [hF.ev rfl])) fun a hF => ?_
  refine ckr hF hS rfl (containsFuncI_c (p := fun x => !decide (0 ≤ x ∧ x ≤ c.capacity - 1)) (cap := #[.pointer (some ⟨g1, 0, none⟩)]) (hS.rd r1) (by kernel_rfl) (fun w_ x hx hB => by rw [app_1]; exact isThread1_c (fun j u hu => cellB hB (hS.box_rd (i := 1) rfl j u hu)) hok)) fun w25 a hS hF => ?_
  exact je 6 hF hS rfl rfl rfl rfl
 intro a w26 hF hS
 refine ga 1 hF rfl fun a hF => ?_
 apply wa 6 136 142 hF hS
 ·
  intro hg136 a hF
  refine gb 2 0 hF hS rfl rfl rfl fun a hF => wl_take hF rfl rfl rfl rfl ?_
  refine wl hF rfl rfl rfl (r_makeFunc (by simp only [List.map_toArray, List.map_cons, List.map_nil]; rw [hF.ev rfl])) fun a hF => ?_
  refine ckr hF hS rfl (containsFuncI_c (p := fun x => !isNode c x) (cap := #[.pointer (some ⟨g1, 0, none⟩)]) (hS.rd r4) (by kernel_rfl) (fun w_ x hx hB => by rw [app_1]; exact isThread2_c (fun j u hu => cellB hB (hS.box_rd (i := 1) rfl j u hu)) (wlimbo x hx))) fun w27 a hS hF => ?_
  exact je 6 hF hS rfl rfl rfl rfl
 intro a w28 hF hS
 refine ge hK15 hF rfl fun a hF => ?_
 refine xr ?_
 refine ret1 rfl hF rfl ⟨congrArg Value.bool (Eq.symm ?_), hS.old⟩
 first
   | exact th_no1 c27
   | exact th_no3 c100
   | (simp only [any_not, Bool.not_not]
      exact th_yes ⟨⟨c27.1, c27.2.imp_right fun h => ⟨h.1, by omega⟩⟩, by omega, fun h => by omega, fun h => by omega⟩ c100)
   | exact th_no2 c28
   | exact th_no4 ⟨c28.1, by have := c28.2; omega⟩
   | exact th_no5 ⟨c28.1, by have := c28.2; omega⟩
set_option maxRecDepth 20000
section
variable {c : Config} {e : Entry} {t : Thread}
theorem ent_yes (h : (isEntry e = true ∧ ¬ c.keys ≤ e.key) ∧ ¬ c.capacity ≤ indexOf e.handle) : entOk c e = true := by
 unfold entOk; rw [h.1.1, decide_eq_true (show e.key < c.keys by omega), decide_eq_true (show indexOf e.handle < c.capacity by omega)]; rfl
theorem ent_no (h : (isEntry e = false ∨ c.keys ≤ e.key) ∨ c.capacity ≤ indexOf e.handle) : entOk c e = false := by
 unfold entOk
 rcases h with (h | h) | h
 · rw [h]; rfl
 · rw [decide_eq_false (show ¬ e.key < c.keys by omega)]; simp
 · rw [decide_eq_false (show ¬ indexOf e.handle < c.capacity by omega)]; simp
theorem th_noS (h : (¬t.pc ∈ pcs ∨ ¬t.pc = 0 ∧ ¬t.op.ok) ∨ c.keys ≤ t.op.key ∧ ¬t.pc = 0) : threadOk c t = false := th_no1 (by
  rcases h with (h | h) | h
  · exact .inl h
  · exact .inr ⟨h.1, .inl h.2⟩
  · exact .inr ⟨h.2, .inr h.1⟩)
theorem th_yesS (hf : freeOk c t = true) (he : (t.buffer ++ t.work).all (entOk c) = true) (hp : pcOk c t) :
    threadOk c t = (zeroOk c t.node && zeroOk c t.prev && zeroOk c t.curr && zeroOk c t.next && !isMarked t.node && !isMarked t.prev && !isMarked t.curr && (t.limbo.all (isNode c) && decide ((t.limbo.length : Int) ≤ 100)) && decide (0 ≤ t.snapshot ∧ t.snapshot ≤ 99) && decide ((t.buffer.length : Int) ≤ 100) && decide ((t.work.length : Int) ≤ 100) && decide ((t.free.length : Int) ≤ 100) && decide ((t.found.length : Int) ≤ 100)) := by
  unfold threadOk
  rw [hf, he, decide_eq_true hp, Bool.eq_iff_iff]
  unfold regsOk
  simp only [isLink_zero, Bool.and_eq_true, decide_eq_true_eq, Bool.true_and]
  unfold sizesOk
  constructor
  · rintro ⟨⟨⟨⟨⟨⟨a1, b1⟩, a2, b2⟩, a3, b3⟩, a4⟩, l⟩, h5, h6, h7, h8, h9, h10⟩
    exact ⟨⟨⟨⟨⟨⟨⟨⟨⟨⟨⟨⟨a1, a2⟩, a3⟩, a4⟩, b1⟩, b2⟩, b3⟩, l, h10⟩, h5⟩, h6⟩, h7⟩, h8⟩, h9⟩
  · rintro ⟨⟨⟨⟨⟨⟨⟨⟨⟨⟨⟨⟨a1, a2⟩, a3⟩, a4⟩, b1⟩, b2⟩, b3⟩, l, h10⟩, h5⟩, h6⟩, h7⟩, h8⟩, h9⟩
    exact ⟨⟨⟨⟨⟨⟨a1, b1⟩, a2, b2⟩, a3, b3⟩, a4⟩, l⟩, h5, h6, h7, h8, h9, h10⟩
theorem th_free (hx : freeOk c t = false) : threadOk c t = false := by unfold threadOk; rw [hx]; rfl
theorem th_ents (hx : (t.buffer ++ t.work).all (entOk c) = false) : threadOk c t = false := by unfold threadOk; rw [hx]; simp
end
theorem l8Thread_c {W : World} {c : Config} {t : Sl.Thread} {cs : List Value} (hm : threadEK.K W t cs) (hw : t.wf) (hok : c.ok) (hz : (t.size : Int) ≤ 1048576) : Calls Tryz.prog 31 #[.agg c.enc.toArray, .agg cs.toArray] W (Ret fun v w' => v = .bool (threadOk c t) ∧ Below W.heap.size W w') := by
 refine cfr Tryz.func31 Tryz.ntmps31 fun a hF => ?_
 have hS := Sep.refl W
 obtain ⟨v0, v1, v2, v3, v4, rfl, r0, r1, r2, r3, r4⟩ := hm
 obtain ⟨A_a, q_a, rfl, hq_a, hn_a⟩ := r0.sl; unfold maxLen at hn_a
 obtain ⟨A_b, q_b, rfl, hq_b, hn_b⟩ := r1.sl; unfold maxLen at hn_b
 obtain ⟨A_c, q_c, rfl, hq_c, hn_c⟩ := r2.sl; unfold maxLen at hn_c
 obtain ⟨A_d, q_d, rfl, hq_d, hn_d⟩ := r3.sl; unfold maxLen at hn_d
 obtain ⟨A_e, q_e, rfl, hq_e, hn_e⟩ := r4.sl; unfold maxLen at hn_e
 obtain ⟨wpc, wop, wres, wsnap, wnode, wprev, wcurr, wnext, wseen, wstamp, wat, wfound, wfree, wbuf, wwork, wlimbo⟩ := hw
 have hb := hok; unfold Config.ok at hb
 have hw1 : IntKind.i64.wrap (c.threads - 1) = c.threads - 1 := w64_id (by omega) (by omega)
 have hw2 : IntKind.i64.wrap (c.capacity - 1) = c.capacity - 1 := w64_id (by omega) (by omega)
 have hw3 : IntKind.i64.wrap (IntKind.i64.wrap (2 * c.threads) - 1) = 2 * c.threads - 1 := by rw [w64_id (q := 2 * c.threads) (by omega) (by omega)]; exact w64_id (by omega) (by omega)
 have hz1 := hz; unfold Sl.Thread.size at hz1
 have hw5 : IntKind.i64.wrap (t.buffer.length + t.work.length) = t.buffer.length + t.work.length := w64_id (by omega) (by omega)
 refine ws fun K1 hK1 => wl_box (cs := [_, _, _, _, _, _]) hF hS rfl (hF.ev rfl) rfl fun g1 w1 a hS _ hF => wl_box (cs := [_, _, _, _, _, _, _, _, _, _, _, _, _, _, _, _, _, _, _]) hF hS rfl (hF.ev rfl) rfl fun g2 w2 a hS _ hF => ge hK1 hF rfl fun a hF => wp_seq_k fun K2 hK2 => rg hF rfl fun a hF => wp_block ?_
 have hL_ := (((hF.nil.keep hF (t := 4) rfl).keep hF (t := 3) rfl).keep hF (t := 2) rfl)
 refine wp_loop_r (σ := Nat) (fun k L_ => (5, vi k) :: L_) (fun k => (k ≤ t.free.length) ∧ ((t.free.take k).all (fun x => decide (0 ≤ x ∧ x ≤ c.capacity - 1)) = true)) (fun k => t.free.length - k) 0 hS (hL_.keepE hF (t := 5) rfl rfl) ?_ ?_
 · exact ⟨Nat.zero_le _, rfl⟩
 rintro k a w3 ⟨hk, hn⟩ hS hF; try dsimp only at hF; try dsimp only at hS
 refine wp_seq_k fun K4 hK4 => rh 0 hF hS rfl rfl rfl fun a hF => cx 13 hF rfl (fun c13 hF => ?_) fun c13 hF => ?_
 ·
  have hlt : k < t.free.length := by omega
  have hx := at0_nat hlt
  refine wp_skip <| hK4 _ _ <| wp_seq_k fun K6 hK6 => wp_block <| wp_seq_k fun K7 hK7 => wp_region_calm (by kernel_rfl) (by kernel_rfl) <| qb 3 0 hF tk hS rfl rfl rfl fun a hF => ?_
  obtain ⟨g19, o19, m19, q19, hv19, hm19, hl19, hc19⟩ := Rd.atF (r1) (a := a) (X := .tmp 18) (hF.ev rfl) (by omega) (by omega)
  refine wq hF rfl rfl rfl (fun w_ hB_ => r_index sl24 ((hF.ev rfl).trans hv19) (hF.ev rfl) (by omega) (by first | omega | (simp at hm19; omega))) fun a hF => ?_
  refine wq hF rfl rfl rfl (fun w_ hB_ => r_load1 sc3 (hF.ev rfl) (cellB (hS.ext hB_).old (hc19 0 _ rfl))) fun a hF => qb 3 1 hF tk hS rfl rfl rfl fun a hF => qk hF rfl (fun w_ hB_ => l1In_c _ _ _) fun a hF => qa 1 hF tk rfl fun a hF => ?_
  refine wpQuiet_nil ?_; intro w4 hB_; have hS := hS.ext hB_
  refine hK7 _ _ <| cx 25 hF rfl (fun c25 hF => ?_) fun c25 hF => ?_
  ·
   refine rg hF rfl fun a hF => ?_
   refine xr ?_
   refine ret1 rfl hF rfl ⟨congrArg Value.bool (Eq.symm ?_), hS.old⟩
   first
     | exact th_free (all_no hx (decide_eq_false (hw2 ▸ c25)))
     | exact th_ents (all_no hx (ent_no c74))
     | exact th_noS c102
     | exact th_yesS (all_done hn (by omega)) (all_done hn2 (by rw [List.length_append]; omega)) ⟨⟨c102.1.1, by rcases c102.1.2 with h | h; exact .inl h; exact c102.2.elim (fun h2 => .inr ⟨h, by omega⟩) .inl⟩, by omega, fun h => by omega, fun h => by omega⟩
     | exact th_no fun hp => by
         obtain ⟨-, p1, p2, p3⟩ := hp
         rcases c148 with (c148 | c148) | c148
         · exact p1 c148
         · rcases c148.1 with h | h
           · have := p2 h; omega
           · have := p3 h; omega
         · have := p2 c148.1; omega
  refine wp_skip ?_
  refine xt ?_
  refine hK6 _ _ <| rl hF rfl fun a hF => ?_
  refine xt ?_
  refine ⟨k + 1, ⟨by omega, all_nxt hn hx (by rw [decide_eq_true (hw2 ▸ c25)])⟩, hS, ((((hF.nil.keep hF (t := 4) rfl).keep hF (t := 3) rfl).keep hF (t := 2) rfl).keepE hF (t := 5) rfl (wk (by omega))), by omega⟩
 refine wp_exit ?_
 refine xt ?_
 refine hK2 _ _ <| wp_seq_k fun K9 hK9 => rg hF rfl fun a hF => wp_block ?_
 have hL_ := (((hF.nil.keep hF (t := 4) rfl).keep hF (t := 3) rfl).keep hF (t := 2) rfl)
 refine wp_loop_r (σ := Nat) (fun k L_ => (6, vi k) :: L_) (fun k => (k ≤ t.buffer.length + t.work.length) ∧ (((t.buffer ++ t.work).take k).all (entOk c) = true)) (fun k => (t.buffer ++ t.work).length - k) 0 hS (hL_.keepE hF (t := 6) rfl rfl) ?_ ?_
 · exact ⟨Nat.zero_le _, rfl⟩
 rintro k a w5 ⟨hk, hn2⟩ hS hF; try dsimp only at hF; try dsimp only at hS
 refine wp_seq_k fun K11 hK11 => rh 0 hF hS rfl rfl rfl fun a hF => cx 34 hF rfl (fun c34 hF => ?_) fun c34 hF => ?_
 ·
  rw [hw5] at c34
  refine wp_skip <| hK11 _ _ <| wp_seq_k fun K13 hK13 => wp_block <| ws fun K14 hK14 => wl hF rfl rfl rfl (r_build (bd92) trivial) fun a hF => wl_alloc hF hS rfl zr92 fun g3 w6 a hS _ hF => ?_
  refine ww 0 hF hS rfl rfl rfl rfl rfl rfl fun w7 hS => wl_nil <| hK14 _ _ <| wp_seq_k fun K15 hK15 => rh 1 hF hS rfl rfl rfl fun a hF => cx 42 hF rfl (fun c42 hF => ?_) fun c42 hF => ?_
  ·
   have hlt : k < t.buffer.length := by omega
   have hwf := wbuf _ (at0_mem (xs := t.buffer) (i := (k : Int)) (by omega) (by omega))
   have hx := (at0_nat (xs := t.buffer ++ t.work) (k := k) (by rw [List.length_append]; omega)).trans (congrArg some (at0_app1 c42))
   refine wp_region_lit <| gb 3 1 hF hS rfl rfl rfl fun a hF => ?_
   obtain ⟨g46, o46, m46, q46, hv46, hm46, hl46, hc46⟩ := Rd.atF (r2) (a := a) (X := .tmp 45) (hF.ev rfl) (by omega) (by omega)
   refine wl hF rfl rfl rfl (r_index sl66 ((hF.ev rfl).trans hv46) (hF.ev rfl) (by omega) (by first | omega | (simp at hm46; omega))) fun a hF => ?_
   refine wl hF rfl rfl rfl (r_loadn ag92 (hF.ev rfl) (fun j_ u_ hu_ => cellB hS.old (hc46 j_ u_ hu_)) sz92) fun a hF => ?_
   refine wl_storen (cs' := [_, _, _, _]) hF hS (i := 0) rfl (hF.ev rfl) (hF.ev rfl) sz92 ⟨rfl, rfl⟩ rfl rfl fun w8 hS => ?_; dsimp only [List.set] at hS
   refine wl_nil <| hK15 _ _ <| wp_seq_k fun K17 hK17 => wp_region_calm (by kernel_rfl) (by kernel_rfl) <| qb 1 0 hF tk hS rfl rfl rfl fun a hF => qk hF rfl (fun w_ hB_ => specIsEntry_c hwf) fun a hF => qa 2 hF tk rfl fun a hF => ?_
   apply wq_or (A := [_, _, _, _, _, _]) (pk := 66) hF (tc := 60) rfl
   ·
    intro hg60 a hF; try simp only [zb] at hg60
    refine qb 3 0 hF tk hS rfl rfl rfl fun a hF => wq_take hF rfl rfl rfl rfl <| qb 3 2 hF tk hS rfl rfl rfl fun a hF => ?_
    exact wpQuiet_nil ((Fr.pre (A := [_, _, _, _, _, _]) hF rfl).keep hF (t := 66) rfl)
   ·
    intro hg60 a hF; try simp only [zb] at hg60
    refine qa 6 hF tk rfl fun a hF => ?_
    exact wpQuiet_nil ((Fr.pre (A := [_, _, _, _, _, _]) hF rfl).keep hF (t := 66) rfl)
   intro a hF
   refine qa 1 hF tk rfl fun a hF => ?_
   apply wq_or (A := [_, _, _, _, _, _, _]) (pk := 74) hF (tc := 67) rfl
   ·
    intro hg67 a hF; try simp only [zb] at hg67
    refine qb 2 0 hF tk hS rfl rfl rfl fun a hF => qk hF rfl (fun w_ hB_ => specIndexOf_c hwf.1) fun a hF => qb 4 2 hF tk hS rfl rfl rfl fun a hF => ?_
    exact wpQuiet_nil ((Fr.pre (A := [_, _, _, _, _, _, _]) hF rfl).keep hF (t := 74) rfl)
   ·
    intro hg67 a hF; try simp only [zb] at hg67
    refine qa 7 hF tk rfl fun a hF => ?_
    exact wpQuiet_nil ((Fr.pre (A := [_, _, _, _, _, _, _]) hF rfl).keep hF (t := 74) rfl)
   intro a hF
   refine wpQuiet_nil ?_; intro w11 hB_; have hS := hS.ext hB_
   refine hK17 _ _ <| cx 74 hF rfl (fun c74 hF => ?_) fun c74 hF => ?_
   ·
    refine rg hF rfl fun a hF => ?_
    refine xr ?_
    refine ret1 rfl hF rfl ⟨congrArg Value.bool (Eq.symm ?_), hS.old⟩
    first
      | exact th_free (all_no hx (decide_eq_false (hw2 ▸ c25)))
      | exact th_ents (all_no hx (ent_no c74))
      | exact th_noS c102
      | exact th_yesS (all_done hn (by omega)) (all_done hn2 (by rw [List.length_append]; omega)) ⟨⟨c102.1.1, by rcases c102.1.2 with h | h; exact .inl h; exact c102.2.elim (fun h2 => .inr ⟨h, by omega⟩) .inl⟩, by omega, fun h => by omega, fun h => by omega⟩
      | exact th_no fun hp => by
          obtain ⟨-, p1, p2, p3⟩ := hp
          rcases c148 with (c148 | c148) | c148
          · exact p1 c148
          · rcases c148.1 with h | h
            · have := p2 h; omega
            · have := p3 h; omega
          · have := p2 c148.1; omega
   refine wp_skip ?_
   refine xt ?_
   refine hK13 _ _ <| rl hF rfl fun a hF => ?_
   refine xt ?_
   refine ⟨k + 1, ⟨by omega, all_nxt hn2 hx (ent_yes c74)⟩, (hS.pick [1, 2] (by decide) rfl), ((((hF.nil.keep hF (t := 4) rfl).keep hF (t := 3) rfl).keep hF (t := 2) rfl).keepE hF (t := 6) rfl (wk (by omega))), by rw [List.length_append]; omega⟩
  have hw4 : IntKind.i64.wrap ((k : Int) - t.buffer.length) = k - t.buffer.length := w64_id (by omega) (by omega)
  have hwf := wwork _ (at0_mem (xs := t.work) (i := IntKind.i64.wrap ((k : Int) - t.buffer.length)) (by omega) (by omega))
  have hx : (t.buffer ++ t.work)[k]? = some (at0 t.work (IntKind.i64.wrap ((k : Int) - t.buffer.length))) := by rw [hw4]; exact (at0_nat (xs := t.buffer ++ t.work) (k := k) (by rw [List.length_append]; omega)).trans (congrArg some (at0_app2 c42))
  refine wp_region_lit <| gb 7 1 hF hS rfl rfl rfl fun a hF => ?_
  obtain ⟨g55, o55, m55, q55, hv55, hm55, hl55, hc55⟩ := Rd.atF (r3) (a := a) (X := .tmp 54) (hF.ev rfl) (by omega) (by omega)
  refine wl hF rfl rfl rfl (r_index sl66 ((hF.ev rfl).trans hv55) (hF.ev rfl) (by omega) (by first | omega | (simp at hm55; omega))) fun a hF => ?_
  refine wl hF rfl rfl rfl (r_loadn ag92 (hF.ev rfl) (fun j_ u_ hu_ => cellB hS.old (hc55 j_ u_ hu_)) sz92) fun a hF => ?_
  refine wl_storen (cs' := [_, _, _, _]) hF hS (i := 0) rfl (hF.ev rfl) (hF.ev rfl) sz92 ⟨rfl, rfl⟩ rfl rfl fun w12 hS => ?_; dsimp only [List.set] at hS
  refine wl_nil <| hK15 _ _ <| wp_seq_k fun K19 hK19 => wp_region_calm (by kernel_rfl) (by kernel_rfl) <| qb 1 0 hF tk hS rfl rfl rfl fun a hF => qk hF rfl (fun w_ hB_ => specIsEntry_c hwf) fun a hF => qa 2 hF tk rfl fun a hF => ?_
  apply wq_or (A := [_, _, _, _, _, _]) (pk := 66) hF (tc := 60) rfl
  ·
   intro hg60 a hF; try simp only [zb] at hg60
   refine qb 3 0 hF tk hS rfl rfl rfl fun a hF => wq_take hF rfl rfl rfl rfl <| qb 3 2 hF tk hS rfl rfl rfl fun a hF => ?_
   exact wpQuiet_nil ((Fr.pre (A := [_, _, _, _, _, _]) hF rfl).keep hF (t := 66) rfl)
  ·
   intro hg60 a hF; try simp only [zb] at hg60
   refine qa 6 hF tk rfl fun a hF => ?_
   exact wpQuiet_nil ((Fr.pre (A := [_, _, _, _, _, _]) hF rfl).keep hF (t := 66) rfl)
  intro a hF
  refine qa 1 hF tk rfl fun a hF => ?_
  apply wq_or (A := [_, _, _, _, _, _, _]) (pk := 74) hF (tc := 67) rfl
  ·
   intro hg67 a hF; try simp only [zb] at hg67
   refine qb 2 0 hF tk hS rfl rfl rfl fun a hF => qk hF rfl (fun w_ hB_ => specIndexOf_c hwf.1) fun a hF => qb 4 2 hF tk hS rfl rfl rfl fun a hF => ?_
   exact wpQuiet_nil ((Fr.pre (A := [_, _, _, _, _, _, _]) hF rfl).keep hF (t := 74) rfl)
  ·
   intro hg67 a hF; try simp only [zb] at hg67
   refine qa 7 hF tk rfl fun a hF => ?_
   exact wpQuiet_nil ((Fr.pre (A := [_, _, _, _, _, _, _]) hF rfl).keep hF (t := 74) rfl)
  intro a hF
  refine wpQuiet_nil ?_; intro w15 hB_; have hS := hS.ext hB_
  refine hK19 _ _ <| cx 74 hF rfl (fun c74 hF => ?_) fun c74 hF => ?_
  ·
   refine rg hF rfl fun a hF => ?_
   refine xr ?_
   refine ret1 rfl hF rfl ⟨congrArg Value.bool (Eq.symm ?_), hS.old⟩
   first
     | exact th_free (all_no hx (decide_eq_false (hw2 ▸ c25)))
     | exact th_ents (all_no hx (ent_no c74))
     | exact th_noS c102
     | exact th_yesS (all_done hn (by omega)) (all_done hn2 (by rw [List.length_append]; omega)) ⟨⟨c102.1.1, by rcases c102.1.2 with h | h; exact .inl h; exact c102.2.elim (fun h2 => .inr ⟨h, by omega⟩) .inl⟩, by omega, fun h => by omega, fun h => by omega⟩
     | exact th_no fun hp => by
         obtain ⟨-, p1, p2, p3⟩ := hp
         rcases c148 with (c148 | c148) | c148
         · exact p1 c148
         · rcases c148.1 with h | h
           · have := p2 h; omega
           · have := p3 h; omega
         · have := p2 c148.1; omega
  refine wp_skip ?_
  refine xt ?_
  refine hK13 _ _ <| rl hF rfl fun a hF => ?_
  refine xt ?_
  refine ⟨k + 1, ⟨by omega, all_nxt hn2 hx (ent_yes c74)⟩, (hS.pick [1, 2] (by decide) rfl), ((((hF.nil.keep hF (t := 4) rfl).keep hF (t := 3) rfl).keep hF (t := 2) rfl).keepE hF (t := 6) rfl (wk (by omega))), by rw [List.length_append]; omega⟩
 rw [hw5] at c34
 refine wp_exit ?_
 refine xt ?_
 refine hK9 _ _ <| wp_seq_k fun K21 hK21 => ws fun K22 hK22 => gb 2 0 hF hS rfl rfl rfl fun a hF => ckr hF hS rfl (specIsPc_c) fun w16 a hS hF => ga 2 hF rfl fun a hF => ?_
 apply wo 10 79 89 hF hS
 ·
  intro hg79 a hF
  refine gb 4 0 hF hS rfl rfl rfl fun a hF => ?_
  apply wa 5 83 88 hF hS
  ·
   intro hg83 a hF
   refine ga 1 hF rfl fun a hF => wl_take hF rfl rfl rfl rfl <| wl hF rfl rfl rfl (r_loadn ag64 (hF.ev rfl) (hS.boxn (vs := [_, _, _]) (i := 0) (m := 3) rfl rfl) sz64) fun a hF => ckr hF hS rfl (specIsOp_c _) fun w17 a hS hF => ?_
   exact je 5 hF hS rfl rfl rfl rfl
  intro a w18 hF hS
  exact je 6 hF hS rfl rfl rfl rfl
 intro a w19 hF hS
 refine ga 1 hF rfl fun a hF => ?_
 apply wo 12 90 102 hF hS
 ·
  intro hg90 a hF
  refine gb 4 0 hF hS rfl rfl rfl fun a hF => wl_take hF rfl rfl rfl rfl <| gb 3 1 hF hS rfl rfl rfl fun a hF => ?_
  apply wa 4 97 101 hF hS
  ·
   intro hg97 a hF
   exact jf 4 0 hF hS rfl rfl rfl rfl rfl rfl
  intro a w20 hF hS
  exact je 9 hF hS rfl rfl rfl rfl
 intro a w21 hF hS
 refine wl_nil <| hK22 _ _ <| cx 102 hF rfl (fun c102 hF => ?_) fun c102 hF => ?_
 ·
  refine rg hF rfl fun a hF => ?_
  refine xr ?_
  refine ret1 rfl hF rfl ⟨congrArg Value.bool (Eq.symm ?_), hS.old⟩
  first
    | exact th_free (all_no hx (decide_eq_false (hw2 ▸ c25)))
    | exact th_ents (all_no hx (ent_no c74))
    | exact th_noS c102
    | exact th_yesS (all_done hn (by omega)) (all_done hn2 (by rw [List.length_append]; omega)) ⟨⟨c102.1.1, by rcases c102.1.2 with h | h; exact .inl h; exact c102.2.elim (fun h2 => .inr ⟨h, by omega⟩) .inl⟩, by omega, fun h => by omega, fun h => by omega⟩
    | exact th_no fun hp => by
        obtain ⟨-, p1, p2, p3⟩ := hp
        rcases c148 with (c148 | c148) | c148
        · exact p1 c148
        · rcases c148.1 with h | h
          · have := p2 h; omega
          · have := p3 h; omega
        · have := p2 c148.1; omega
 refine wp_skip <| hK21 _ _ <| wp_seq_k fun K24 hK24 => ws fun K25 hK25 => gb 4 0 hF hS rfl rfl rfl fun a hF => ?_
 apply wo 4 106 110 hF hS
 ·
  intro hg106 a hF
  exact jf 4 0 hF hS rfl rfl rfl rfl rfl rfl
 intro a w22 hF hS
 refine ga 1 hF rfl fun a hF => ?_
 apply wa 5 111 116 hF hS
 ·
  intro hg111 a hF
  exact jf 5 0 hF hS rfl rfl rfl rfl rfl rfl
 intro a w23 hF hS
 refine ga 1 hF rfl fun a hF => ?_
 apply wo 19 117 136 hF hS
 ·
  intro hg117 a hF
  refine gb 4 0 hF hS rfl rfl rfl fun a hF => ?_
  apply wo 4 121 125 hF hS
  ·
   intro hg121 a hF
   exact jf 4 0 hF hS rfl rfl rfl rfl rfl rfl
  intro a w24 hF hS
  refine ga 1 hF rfl fun a hF => ?_
  apply wa 9 126 135 hF hS
  ·
   intro hg126 a hF
   refine gb 3 0 hF hS rfl rfl rfl fun a hF => wl_take hF rfl rfl rfl rfl <| gb 3 1 hF hS rfl rfl rfl fun a hF => ckr hF hS rfl (l1In_c _ _ _) fun w25 a hS hF => ?_
   exact je 9 hF hS rfl rfl rfl rfl
  intro a w26 hF hS
  exact je 8 hF hS rfl rfl rfl rfl
 intro a w27 hF hS
 refine ga 1 hF rfl fun a hF => ?_
 apply wo 11 137 148 hF hS
 ·
  intro hg137 a hF
  refine gb 4 0 hF hS rfl rfl rfl fun a hF => ?_
  apply wa 6 141 147 hF hS
  ·
   intro hg141 a hF
   refine gb 3 0 hF hS rfl rfl rfl fun a hF => wl_take hF rfl rfl rfl rfl ?_
   exact jf 6 1 hF hS rfl rfl rfl rfl rfl rfl
  intro a w28 hF hS
  exact je 6 hF hS rfl rfl rfl rfl
 intro a w29 hF hS
 refine wl_nil <| hK25 _ _ <| cx 148 hF rfl (fun c148 hF => ?_) fun c148 hF => ?_
 ·
  refine rg hF rfl fun a hF => ?_
  refine xr ?_
  refine ret1 rfl hF rfl ⟨congrArg Value.bool (Eq.symm ?_), hS.old⟩
  first
    | exact th_free (all_no hx (decide_eq_false (hw2 ▸ c25)))
    | exact th_ents (all_no hx (ent_no c74))
    | exact th_noS c102
    | exact th_yesS (all_done hn (by omega)) (all_done hn2 (by rw [List.length_append]; omega)) ⟨⟨c102.1.1, by rcases c102.1.2 with h | h; exact .inl h; exact c102.2.elim (fun h2 => .inr ⟨h, by omega⟩) .inl⟩, by omega, fun h => by omega, fun h => by omega⟩
    | exact th_no fun hp => by
        obtain ⟨-, p1, p2, p3⟩ := hp
        rcases c148 with (c148 | c148) | c148
        · exact p1 c148
        · rcases c148.1 with h | h
          · have := p2 h; omega
          · have := p3 h; omega
        · have := p2 c148.1; omega
 refine wp_skip <| hK24 _ _ <| ws fun K27 hK27 => gb 2 1 hF hS rfl rfl rfl fun a hF => gb 1 0 hF hS rfl rfl rfl fun a hF => ckr hF hS rfl (l8Zero_c (by assumption)) fun w30 a hS hF => ga 1 hF rfl fun a hF => ?_
 apply wa 5 153 158 hF hS
 ·
  intro hg153 a hF
  refine gb 2 1 hF hS rfl rfl rfl fun a hF => wl_take hF rfl rfl rfl rfl <| gb 1 0 hF hS rfl rfl rfl fun a hF => ckr hF hS rfl (l8Zero_c (by assumption)) fun w31 a hS hF => ?_
  exact je 5 hF hS rfl rfl rfl rfl
 intro a w32 hF hS
 refine ga 1 hF rfl fun a hF => ?_
 apply wa 5 159 164 hF hS
 ·
  intro hg159 a hF
  refine gb 2 1 hF hS rfl rfl rfl fun a hF => wl_take hF rfl rfl rfl rfl <| gb 1 0 hF hS rfl rfl rfl fun a hF => ckr hF hS rfl (l8Zero_c (by assumption)) fun w33 a hS hF => ?_
  exact je 5 hF hS rfl rfl rfl rfl
 intro a w34 hF hS
 refine ga 1 hF rfl fun a hF => ?_
 apply wa 5 165 170 hF hS
 ·
  intro hg165 a hF
  refine gb 2 1 hF hS rfl rfl rfl fun a hF => wl_take hF rfl rfl rfl rfl <| gb 1 0 hF hS rfl rfl rfl fun a hF => ckr hF hS rfl (l8Zero_c (by assumption)) fun w35 a hS hF => ?_
  exact je 5 hF hS rfl rfl rfl rfl
 intro a w36 hF hS
 refine ga 1 hF rfl fun a hF => ?_
 apply wa 5 171 176 hF hS
 ·
  intro hg171 a hF
  refine gb 2 0 hF hS rfl rfl rfl fun a hF => ckr hF hS rfl (specIsMarked_c (by assumption)) fun w37 a hS hF => ?_
  exact je 5 hF hS rfl rfl rfl rfl
 intro a w38 hF hS
 refine ga 1 hF rfl fun a hF => ?_
 apply wa 5 177 182 hF hS
 ·
  intro hg177 a hF
  refine gb 2 0 hF hS rfl rfl rfl fun a hF => ckr hF hS rfl (specIsMarked_c (by assumption)) fun w39 a hS hF => ?_
  exact je 5 hF hS rfl rfl rfl rfl
 intro a w40 hF hS
 refine ga 1 hF rfl fun a hF => ?_
 apply wa 5 183 188 hF hS
 ·
  intro hg183 a hF
  refine gb 2 0 hF hS rfl rfl rfl fun a hF => ckr hF hS rfl (specIsMarked_c (by assumption)) fun w41 a hS hF => ?_
  exact je 5 hF hS rfl rfl rfl rfl
 intro a w42 hF hS
 refine ge hK27 hF rfl fun a hF => ws fun K28 hK28 => ga 2 hF rfl fun a hF => ?_
 apply wa 5 190 195 hF hS
 ·
  intro hg190 a hF
  refine gb 2 1 hF hS rfl rfl rfl fun a hF => wl_take hF rfl rfl rfl rfl <| gb 1 0 hF hS rfl rfl rfl fun a hF => ckr hF hS rfl (l8Handles_c (hS.rd r4) wlimbo) fun w43 a hS hF => ?_
  exact je 5 hF hS rfl rfl rfl rfl
 intro a w44 hF hS
 refine ga 1 hF rfl fun a hF => ?_
 apply wa 4 196 200 hF hS
 ·
  intro hg196 a hF
  refine gb 2 0 hF hS rfl rfl rfl fun a hF => ckr hF hS rfl (l1In_c _ _ _) fun w45 a hS hF => ?_
  exact je 4 hF hS rfl rfl rfl rfl
 intro a w46 hF hS
 refine ga 1 hF rfl fun a hF => ?_
 apply wa 5 201 206 hF hS
 ·
  intro hg201 a hF
  exact jf 5 0 hF hS rfl rfl rfl rfl rfl rfl
 intro a w47 hF hS
 refine ga 1 hF rfl fun a hF => ?_
 apply wa 5 207 212 hF hS
 ·
  intro hg207 a hF
  exact jf 5 0 hF hS rfl rfl rfl rfl rfl rfl
 intro a w48 hF hS
 refine ga 1 hF rfl fun a hF => ?_
 apply wa 5 213 218 hF hS
 ·
  intro hg213 a hF
  exact jf 5 0 hF hS rfl rfl rfl rfl rfl rfl
 intro a w49 hF hS
 refine ga 1 hF rfl fun a hF => ?_
 apply wa 5 219 224 hF hS
 ·
  intro hg219 a hF
  exact jf 5 0 hF hS rfl rfl rfl rfl rfl rfl
 intro a w50 hF hS
 refine ge hK28 hF rfl fun a hF => ?_
 refine xr ?_
 refine ret1 rfl hF rfl ⟨congrArg Value.bool (Eq.symm ?_), hS.old⟩
 first
   | exact th_free (all_no hx (decide_eq_false (hw2 ▸ c25)))
   | exact th_ents (all_no hx (ent_no c74))
   | exact th_noS c102
   | exact th_yesS (all_done hn (by omega)) (all_done hn2 (by rw [List.length_append]; omega)) ⟨⟨c102.1.1, by rcases c102.1.2 with h | h; exact .inl h; exact c102.2.elim (fun h2 => .inr ⟨h, by omega⟩) .inl⟩, by omega, fun h => by omega, fun h => by omega⟩
   | exact th_no fun hp => by
       obtain ⟨-, p1, p2, p3⟩ := hp
       rcases c148 with (c148 | c148) | c148
       · exact p1 c148
       · rcases c148.1 with h | h
         · have := p2 h; omega
         · have := p3 h; omega
       · have := p2 c148.1; omega
set_option maxRecDepth 20000
theorem thread_inner0 (w : World) : Sat (threadEK.inner default []) (fun _ => False) w := by
 have h := Sat.nil (fun _ => False) w
 have c := fun {α : Type} (ek : EK α) {l : List Res} (h : Sat l (fun _ => False) w) => Sat.cons (S1 := fun _ => False) (S' := fun _ => False) h (own_nil ek _ w) (fun k hk => hk) (fun k hk => hk) (fun k hk _ => hk)
 exact c intEK (c intEK (c entryEK (c entryEK (c intEK h))))
theorem toConfig_c {W : World} (x : Config) : Calls Tryz.prog 15 #[.agg x.enc.toArray] W (Ret fun v w' => v = .agg x.enc.toArray ∧ Below W.heap.size W w') := by
 refine cfr Tryz.func15 Tryz.ntmps15 fun a hF => ?_
 have hS := Sep.refl W
 refine ws fun K1 hK1 => wl_box (cs := [_, _, _, _, _, _]) hF hS rfl (hF.ev rfl) rfl fun g1 w1 a hS _ hF => wl_alloc hF hS rfl zr30 fun g2 w2 a hS _ hF => wl_nil <| hK1 _ _ <| ws fun K2 hK2 => wl_alloc hF hS rfl zr30 fun g3 w3 a hS _ hF => wl_nil (hK2 _ _ ?_)
 refine ws fun K3 hK3 => gb 3 2 hF hS rfl rfl rfl fun a hF => wv 0 hF hS rfl rfl rfl rfl rfl rfl fun w4 hS => wl_nil <| hK3 _ _ <| ws fun K4 hK4 => gb 3 2 hF hS rfl rfl rfl fun a hF => wv 0 hF hS rfl rfl rfl rfl rfl rfl fun w5 hS => ?_
 refine wl_nil <| hK4 _ _ <| ws fun K5 hK5 => gb 3 2 hF hS rfl rfl rfl fun a hF => wv 0 hF hS rfl rfl rfl rfl rfl rfl fun w6 hS => wl_nil <| hK5 _ _ <| ws fun K6 hK6 => gb 3 2 hF hS rfl rfl rfl fun a hF => ?_
 refine wv 0 hF hS rfl rfl rfl rfl rfl rfl fun w7 hS => wl_nil <| hK6 _ _ <| ws fun K7 hK7 => gb 3 2 hF hS rfl rfl rfl fun a hF => wv 0 hF hS rfl rfl rfl rfl rfl rfl fun w8 hS => wl_nil <| hK7 _ _ <| ws fun K8 hK8 => ?_
 refine gb 3 2 hF hS rfl rfl rfl fun a hF => wv 0 hF hS rfl rfl rfl rfl rfl rfl fun w9 hS => wl_nil <| hK8 _ _ <| ws fun K9 hK9 => gb 1 0 hF hS rfl rfl rfl fun a hF => ww 1 hF hS rfl rfl rfl rfl rfl rfl fun w10 hS => wl_nil (hK9 _ _ ?_)
 refine xr ?_
 exact ret1c rfl ag30 hF hS (i := 1) rfl sz30 rfl ⟨rfl, hS.old⟩
theorem szThreadS_c {W : World} {va : Value} {xs : List Sl.Thread} {left : Int} (ha : threadEK.Rd W va xs) (h0 : 0 ≤ left) (h1 : left ≤ 1048576) : Calls Tryz.prog 10 #[va, vi left] W (Ret fun v w' => (∃ r : Int, v = vi r ∧ -1 ≤ r ∧ r ≤ left ∧ (0 ≤ r → (xs.length + crow (Sl.Thread.size) xs : Int) ≤ left - r)) ∧ Below W.heap.size W w') := by
 refine cfr Tryz.func10 Tryz.ntmps10 fun a hF => ?_
 obtain ⟨A_a, q_a, rfl, hq_a, hn_a⟩ := ha.sl; unfold maxLen at hn_a
 have hS := Sep.refl W
 have e : IntKind.i64.wrap (left - xs.length) = left - xs.length := w64_id (by omega) (by omega)
 refine rg hF rfl fun a hF => rg hF rfl fun a hF => wp_seq_k fun K3 hK3 => rg hF rfl fun a hF => cx 11 hF rfl (fun c11 hF => ?_) fun c11 hF => ?_
 ·
  rw [e] at c11
  refine rg hF rfl fun a hF => ?_
  refine xr ?_
  first | exact ret1 rfl hF rfl ⟨⟨-1, rfl, by omega, by omega, by omega⟩, hS.old⟩ | (obtain rfl : k = xs.length := (by omega); rw [List.take_length] at hr2; exact ret1 rfl hF rfl ⟨⟨_, rfl, by omega, by omega, fun _ => hr2⟩, hS.old⟩)
 rw [e] at c11
 refine wp_skip <| hK3 _ _ <| wp_seq_k fun K6 hK6 => rg hF rfl fun a hF => wp_block ?_
 have hL_ := ((hF.nil.keep hF (t := 4) rfl).keep hF (t := 0) rfl)
 refine wp_loop_r (σ := Nat × Int) (fun s L_ => (5, vi s.1) :: (1, vi s.2) :: L_) (fun s => (s.1 ≤ xs.length) ∧ (0 ≤ s.2) ∧ (s.2 ≤ left) ∧ ((xs.length + crow (Sl.Thread.size) (xs.take s.1) : Int) ≤ left - s.2)) (fun s => xs.length - s.1) (0, left - xs.length) hS ((hL_.keepE hF (t := 1) rfl (congrArg vi e)).keepE hF (t := 5) rfl rfl) ?_ ?_
 · exact ⟨Nat.zero_le _, by dsimp only; omega, by dsimp only; omega, by simp only [List.take_zero, crow]; omega⟩
 rintro ⟨k, r⟩ a w1 ⟨hk, hr0, hr1, hr2⟩ hS hF; try dsimp only at hF; try dsimp only at hS; try dsimp only at hk; try dsimp only at hr0; try dsimp only at hr1; try dsimp only at hr2
 refine wp_seq_k fun K8 hK8 => rg hF rfl fun a hF => cx 15 hF rfl (fun c15 hF => ?_) fun c15 hF => ?_
 ·
  have hlt : k < xs.length := by omega
  have hx := at0_nat hlt
  refine wp_skip <| hK8 _ _ <| wp_seq_k fun K10 hK10 => wp_block <| ws fun K11 hK11 => ga 2 hF rfl fun a hF => ?_
  obtain ⟨g20, o20, m20, q20, cs20, hv20, hm20, hl20, hk20, hz20, hc20⟩ := Rd.at (ha) (a := a) (X := .tmp 19) (hF.ev rfl) (by omega) (by omega)
  have hkk20 := hk20; obtain ⟨v20_0, v20_1, v20_2, v20_3, v20_4, rfl, r20_0, r20_1, r20_2, r20_3, r20_4⟩ := hk20
  refine wl hF rfl rfl rfl (r_index sl25 ((hF.ev rfl).trans hv20) (hF.ev rfl) (by omega) (by first | omega | (simp at hm20; omega))) fun a hF => ?_
  refine wl hF rfl rfl rfl (r_loadn ag59 (hF.ev rfl) (fun j_ u_ hu_ => cellB hS.old (hc20 j_ u_ hu_)) sz59) fun a hF => ga 1 hF rfl fun a hF => ?_
  refine ck hF rfl (szThread_c (hS.k hkk20) (by omega) (by omega)) ?_; rintro v w2 a ⟨⟨r23, rfl, e1_23, e2_23, e3_23⟩, hB_⟩ hF; have hS := hS.ext hB_
  refine ge hK11 hF rfl fun a hF => rg hF rfl fun a hF => cx 25 hF rfl (fun c25 hF => ?_) fun c25 hF => ?_
  ·
   refine rg hF rfl fun a hF => ?_
   refine xr ?_
   first | exact ret1 rfl hF rfl ⟨⟨-1, rfl, by omega, by omega, by omega⟩, hS.old⟩ | (obtain rfl : k = xs.length := (by omega); rw [List.take_length] at hr2; exact ret1 rfl hF rfl ⟨⟨_, rfl, by omega, by omega, fun _ => hr2⟩, hS.old⟩)
  refine wp_skip ?_
  refine xt ?_
  refine hK10 _ _ <| rl hF rfl fun a hF => ?_
  refine xt ?_
  have e4 := e3_23 (by omega)
  have hr2 : (xs.length + crow (Sl.Thread.size) (xs.take k) : Int) ≤ left - r := hr2
  refine ⟨(k + 1, r23), ⟨by dsimp only; omega, by dsimp only; omega, by dsimp only; omega, by dsimp only; rw [crow_next hx]; omega⟩, hS, ((((hF.nil.keep hF (t := 4) rfl).keep hF (t := 0) rfl).keepE hF (t := 1) rfl rfl).keepE hF (t := 5) rfl (wk (by omega))), by dsimp only; omega⟩
 refine wp_exit ?_
 refine xt ?_
 refine hK6 _ _ <| rg hF rfl fun a hF => ?_
 refine xr ?_
 first | exact ret1 rfl hF rfl ⟨⟨-1, rfl, by omega, by omega, by omega⟩, hS.old⟩ | (obtain rfl : k = xs.length := (by omega); rw [List.take_length] at hr2; exact ret1 rfl hF rfl ⟨⟨_, rfl, by omega, by omega, fun _ => hr2⟩, hS.old⟩)
theorem toThreadS_c {W : World} {va : Value} {xs : List Sl.Thread} (ha : threadEK.Rd W va xs) (hz : xs.length + crow (Sl.Thread.size) xs ≤ 1048576) : Calls Tryz.prog 17 #[va] W (Ret (Mk W (fun s : Slv => sv s) (fun s => [Own (threadEK) (sv s) xs]))) := by
 refine cfr Tryz.func17 Tryz.ntmps17 fun a hF => ?_
 obtain ⟨A_a, q_a, rfl, hq_a, hn_a⟩ := ha.sl; unfold maxLen at hn_a
 have hS := Sep.refl W
 refine rg hF rfl fun a hF => ws fun K2 hK2 => ga 2 hF rfl fun a hF => ?_
 refine wl_make threadEK (default : Sl.Thread) [] hF hS rfl mk31 rfl thread_inner0 (hF.ev rfl) (by omega) (by unfold maxLen; omega) fun gm_7 w1 a hS hF => ?_
 refine ge hK2 hF rfl fun a hF => wp_seq_k fun K3 hK3 => rg hF rfl fun a hF => wp_block ?_
 rw [show List.replicate xs.length ((default : Sl.Thread)) = xs.take 0 ++ List.replicate (xs.length - 0) ((default : Sl.Thread)) from by simp] at hS
 replace hS := hS.pull (p := 0) rfl; dsimp only [List.eraseIdx] at hS
 have hL_ := (((hF.nil.keep hF (t := 3) rfl).keep hF (t := 2) rfl).keep hF (t := 0) rfl)
 refine wp_loop_m (σ := Nat) (fun k L_ => (4, vi k) :: L_) (fun k l_ => (Own threadEK (.slice (some ⟨gm_7, 0, none⟩) xs.length xs.length) (xs.take k ++ List.replicate (xs.length - k) ((default : Sl.Thread)))) :: l_) (fun k => (k ≤ xs.length)) (fun k => xs.length - k) 0 (hS) (hL_.keepE hF (t := 4) rfl rfl) ?_ ?_
 · exact Nat.zero_le _
 rintro k a w2 hk hS hF; try dsimp only at hF; try dsimp only at hS
 refine wp_seq_k fun K5 hK5 => rg hF rfl fun a hF => cx 11 hF rfl (fun c11 hF => ?_) fun c11 hF => ?_
 ·
  have hlt : k < xs.length := by omega
  have hx := at0_nat hlt
  have hc1 := crow_le1 (c := Sl.Thread.size) hx
  refine wp_skip <| hK5 _ _ <| wp_seq_k fun K7 hK7 => wp_block <| wp_region_lit <| ga 4 hF rfl fun a hF => ?_
  obtain ⟨g18, o18, m18, q18, cs18, hv18, hm18, hl18, hk18, hz18, hc18⟩ := Rd.at (ha) (a := a) (X := .tmp 17) (hF.ev rfl) (by omega) (by omega)
  have hkk18 := hk18; obtain ⟨v18_0, v18_1, v18_2, v18_3, v18_4, rfl, r18_0, r18_1, r18_2, r18_3, r18_4⟩ := hk18
  refine wl hF rfl rfl rfl (r_index sl25 ((hF.ev rfl).trans hv18) (hF.ev rfl) (by omega) (by first | omega | (simp at hm18; omega))) fun a hF => ?_
  refine wl hF rfl rfl rfl (r_loadn ag59 (hF.ev rfl) (fun j_ u_ hu_ => cellB hS.old (hc18 j_ u_ hu_)) sz59) fun a hF => ?_
  refine wl_mk hF hS rfl rfl rfl (r_call1 en38 (hF.ev rfl)) (toThread_c (hS.k hkk18) (by omega)) ?_; rintro vs20 w3 a hS_ hF; replace hS := hS_; clear hS_; dsimp only [List.cons_append, List.nil_append] at hS
  obtain ⟨g21, o21, m21, q21, cs21, hv21, hm21, hl21, hk21, hz21, hc21⟩ := Rd.at ((hS.own_rd (i := 1) rfl)) (a := a) (X := .tmp 15) (hF.ev rfl) (by omega) (by simp; omega)
  have hkk21 := hk21; obtain ⟨v21_0, v21_1, v21_2, v21_3, v21_4, rfl, r21_0, r21_1, r21_2, r21_3, r21_4⟩ := hk21
  refine wl hF rfl rfl rfl (r_index sl31 ((hF.ev rfl).trans hv21) (hF.ev rfl) (by omega) (by first | omega | (simp at hm21; omega))) fun a hF => ?_
  replace hS := hS.pull (p := 0) rfl; dsimp only [List.eraseIdx] at hS
  refine wl_oput (q := 0) hF hS rfl hv21 (at0_get (by omega) (by first | omega | (simp; omega))) sz68 (hF.ev rfl) rfl (hF.ev rfl) rfl fun w4 hS => ?_; dsimp only [List.set] at hS
  refine wl_nil ?_
  refine xt ?_
  refine hK7 _ _ <| rl hF rfl fun a hF => ?_
  refine xt ?_
  rw [Int.toNat_natCast, fill_set hx] at hS
  refine ⟨k + 1, (by omega), hS, ((((hF.nil.keep hF (t := 3) rfl).keep hF (t := 2) rfl).keep hF (t := 0) rfl).keepE hF (t := 4) rfl (wk (by omega))), by omega⟩
 refine wp_exit ?_
 refine xt ?_
 refine hK3 _ _ <| rg hF rfl fun a hF => ?_
 refine xr ?_
 obtain rfl : k = xs.length := by omega
 refine ret1 rfl hF rfl ?_
 rw [Nat.sub_self, List.replicate_zero, List.append_nil, List.take_length] at hS; exact Sep.mkS (hS.pick [0] (by decide) rfl) rfl
theorem eqThreadS_c {W : World} {va vb : Value} {xs ys : List Sl.Thread} (ha : threadEK.Rd W va xs) (hb : threadEK.Rd W vb ys) : Calls Tryz.prog 26 #[va, vb] W (Ret fun v w' => v = .bool (decide (xs = ys)) ∧ Below W.heap.size W w') := by
 refine cfr Tryz.func26 Tryz.ntmps26 fun a hF => ?_
 obtain ⟨A_a, q_a, rfl, hq_a, hn_a⟩ := ha.sl; unfold maxLen at hn_a
 obtain ⟨A_b, q_b, rfl, hq_b, hn_b⟩ := hb.sl; unfold maxLen at hn_b
 have hS := Sep.refl W
 refine rg hF rfl fun a hF => wp_seq_k fun K2 hK2 => rg hF rfl fun a hF => cx 10 hF rfl (fun c10 hF => ?_) fun c10 hF => ?_
 ·
  refine rg hF rfl fun a hF => ?_
  refine xr ?_
  refine ret1 rfl hF rfl ⟨?_, hS.old⟩
  first | exact eq_len c10 | exact eq_at hx hy c26 | exact eq_all htk hk hlen (by omega)
 refine wp_skip <| hK2 _ _ <| wp_seq_k fun K5 hK5 => rg hF rfl fun a hF => wp_block ?_
 have hL_ := (((hF.nil.keep hF (t := 4) rfl).keep hF (t := 1) rfl).keep hF (t := 0) rfl)
 refine wp_loop_r (σ := Nat) (fun k L_ => (5, vi k) :: L_) (fun k => (k ≤ xs.length) ∧ (xs.length = ys.length) ∧ (xs.take k = ys.take k)) (fun k => xs.length - k) 0 hS (hL_.keepE hF (t := 5) rfl rfl) ?_ ?_
 · exact ⟨Nat.zero_le _, by omega, rfl⟩
 rintro k a w1 ⟨hk, hlen, htk⟩ hS hF; try dsimp only at hF; try dsimp only at hS
 refine wp_seq_k fun K7 hK7 => rg hF rfl fun a hF => cx 14 hF rfl (fun c14 hF => ?_) fun c14 hF => ?_
 ·
  have hlt : k < xs.length := by omega
  have hx := at0_nat hlt
  have hy := at0_nat (xs := ys) (k := k) (by omega)
  refine wp_skip <| hK7 _ _ <| wp_seq_k fun K9 hK9 => wp_block <| wp_seq_k fun K10 hK10 => wp_region_calm (by kernel_rfl) (by kernel_rfl) <| qa 2 hF tk rfl fun a hF => ?_
  obtain ⟨g19, o19, m19, q19, cs19, hv19, hm19, hl19, hk19, hz19, hc19⟩ := Rd.at (ha) (a := a) (X := .tmp 18) (hF.ev rfl) (by omega) (by omega)
  have hkk19 := hk19; obtain ⟨v19_0, v19_1, v19_2, v19_3, v19_4, rfl, r19_0, r19_1, r19_2, r19_3, r19_4⟩ := hk19
  refine wq hF rfl rfl rfl (fun w_ hB_ => r_index sl31 ((hF.ev rfl).trans hv19) (hF.ev rfl) (by omega) (by first | omega | (simp at hm19; omega))) fun a hF => ?_
  refine wq hF rfl rfl rfl (fun w_ hB_ => r_loadn ag68 (hF.ev rfl) (fun j_ u_ hu_ => cellB (hS.ext hB_).old (hc19 j_ u_ hu_)) sz68) fun a hF => qa 2 hF tk rfl fun a hF => ?_
  obtain ⟨g23, o23, m23, q23, cs23, hv23, hm23, hl23, hk23, hz23, hc23⟩ := Rd.at (hb) (a := a) (X := .tmp 22) (hF.ev rfl) (by omega) (by omega)
  have hkk23 := hk23; obtain ⟨v23_0, v23_1, v23_2, v23_3, v23_4, rfl, r23_0, r23_1, r23_2, r23_3, r23_4⟩ := hk23
  refine wq hF rfl rfl rfl (fun w_ hB_ => r_index sl31 ((hF.ev rfl).trans hv23) (hF.ev rfl) (by omega) (by first | omega | (simp at hm23; omega))) fun a hF => ?_
  refine wq hF rfl rfl rfl (fun w_ hB_ => r_loadn ag68 (hF.ev rfl) (fun j_ u_ hu_ => cellB (hS.ext hB_).old (hc23 j_ u_ hu_)) sz68) fun a hF => qk hF rfl (fun w_ hB_ => eqThread_c ((hS.ext hB_).k hkk19) ((hS.ext hB_).k hkk23)) fun a hF => qa 1 hF tk rfl fun a hF => ?_
  refine wpQuiet_nil ?_; intro w2 hB_; have hS := hS.ext hB_
  refine hK10 _ _ <| cx 26 hF rfl (fun c26 hF => ?_) fun c26 hF => ?_
  ·
   refine rg hF rfl fun a hF => ?_
   refine xr ?_
   refine ret1 rfl hF rfl ⟨?_, hS.old⟩
   first | exact eq_len c10 | exact eq_at hx hy c26 | exact eq_all htk hk hlen (by omega)
  refine wp_skip ?_
  refine xt ?_
  refine hK9 _ _ <| rl hF rfl fun a hF => ?_
  refine xt ?_
  refine ⟨k + 1, ⟨by omega, hlen, take_next htk hx hy c26⟩, hS, ((((hF.nil.keep hF (t := 4) rfl).keep hF (t := 1) rfl).keep hF (t := 0) rfl).keepE hF (t := 5) rfl (wk (by omega))), by omega⟩
 refine wp_exit ?_
 refine xt ?_
 refine hK5 _ _ <| rg hF rfl fun a hF => ?_
 refine xr ?_
 refine ret1 rfl hF rfl ⟨?_, hS.old⟩
 first | exact eq_len c10 | exact eq_at hx hy c26 | exact eq_all htk hk hlen (by omega)
theorem eqConfig_c {W : World} {x y : Config} : Calls Tryz.prog 24 #[.agg (x.enc).toArray, .agg (y.enc).toArray] W (Ret fun v w' => v = .bool (decide (x = y)) ∧ Below W.heap.size W w') := by
 refine cfr Tryz.func24 Tryz.ntmps24 fun a hF => ?_
 have hS := Sep.refl W
 refine ws fun K1 hK1 => wl_box (cs := [_, _, _, _, _, _]) hF hS rfl (hF.ev rfl) rfl fun g1 w1 a hS _ hF => wl_box (cs := [_, _, _, _, _, _]) hF hS rfl (hF.ev rfl) rfl fun g2 w2 a hS _ hF => ge hK1 hF rfl fun a hF => wp_seq_k fun K2 hK2 => ws fun K3 hK3 => gb 3 1 hF hS rfl rfl rfl fun a hF => ?_
 refine gf hK3 0 hF hS rfl rfl rfl fun a hF => ?_
 first | refine wc_dec (hF.ev rfl) (fun c9 => ?_) (fun c9 => ?_) | refine wc_ndec (hF.ev rfl) (fun c9 => ?_) (fun c9 => ?_) | refine wc_b (hF.ev rfl) (fun c9 => ?_) (fun c9 => ?_)
 ·
  refine rg hF rfl fun a hF => ?_
  refine xr ?_
  refine ret1 rfl hF rfl ⟨congrArg Value.bool (Eq.symm ?_), hS.old⟩
  first | exact decide_eq_false (fun e => by subst e; first | exact c9 rfl | exact c14 rfl | exact c19 rfl | exact c24 rfl | exact c29 rfl | exact c34 rfl) | exact decide_eq_true (by cases x; cases y; simp only [Config.mk.injEq]; exact ⟨c9, c14, c19, c24, c29, c34⟩)
 refine wp_skip <| hK2 _ _ <| wp_seq_k fun K5 hK5 => ws fun K6 hK6 => gb 3 1 hF hS rfl rfl rfl fun a hF => gf hK6 0 hF hS rfl rfl rfl fun a hF => ?_
 first | refine wc_dec (hF.ev rfl) (fun c14 => ?_) (fun c14 => ?_) | refine wc_ndec (hF.ev rfl) (fun c14 => ?_) (fun c14 => ?_) | refine wc_b (hF.ev rfl) (fun c14 => ?_) (fun c14 => ?_)
 ·
  refine rg hF rfl fun a hF => ?_
  refine xr ?_
  refine ret1 rfl hF rfl ⟨congrArg Value.bool (Eq.symm ?_), hS.old⟩
  first | exact decide_eq_false (fun e => by subst e; first | exact c9 rfl | exact c14 rfl | exact c19 rfl | exact c24 rfl | exact c29 rfl | exact c34 rfl) | exact decide_eq_true (by cases x; cases y; simp only [Config.mk.injEq]; exact ⟨c9, c14, c19, c24, c29, c34⟩)
 refine wp_skip <| hK5 _ _ <| wp_seq_k fun K8 hK8 => ws fun K9 hK9 => gb 3 1 hF hS rfl rfl rfl fun a hF => gf hK9 0 hF hS rfl rfl rfl fun a hF => ?_
 first | refine wc_dec (hF.ev rfl) (fun c19 => ?_) (fun c19 => ?_) | refine wc_ndec (hF.ev rfl) (fun c19 => ?_) (fun c19 => ?_) | refine wc_b (hF.ev rfl) (fun c19 => ?_) (fun c19 => ?_)
 ·
  refine rg hF rfl fun a hF => ?_
  refine xr ?_
  refine ret1 rfl hF rfl ⟨congrArg Value.bool (Eq.symm ?_), hS.old⟩
  first | exact decide_eq_false (fun e => by subst e; first | exact c9 rfl | exact c14 rfl | exact c19 rfl | exact c24 rfl | exact c29 rfl | exact c34 rfl) | exact decide_eq_true (by cases x; cases y; simp only [Config.mk.injEq]; exact ⟨c9, c14, c19, c24, c29, c34⟩)
 refine wp_skip <| hK8 _ _ <| wp_seq_k fun K11 hK11 => ws fun K12 hK12 => gb 3 1 hF hS rfl rfl rfl fun a hF => gf hK12 0 hF hS rfl rfl rfl fun a hF => ?_
 first | refine wc_dec (hF.ev rfl) (fun c24 => ?_) (fun c24 => ?_) | refine wc_ndec (hF.ev rfl) (fun c24 => ?_) (fun c24 => ?_) | refine wc_b (hF.ev rfl) (fun c24 => ?_) (fun c24 => ?_)
 ·
  refine rg hF rfl fun a hF => ?_
  refine xr ?_
  refine ret1 rfl hF rfl ⟨congrArg Value.bool (Eq.symm ?_), hS.old⟩
  first | exact decide_eq_false (fun e => by subst e; first | exact c9 rfl | exact c14 rfl | exact c19 rfl | exact c24 rfl | exact c29 rfl | exact c34 rfl) | exact decide_eq_true (by cases x; cases y; simp only [Config.mk.injEq]; exact ⟨c9, c14, c19, c24, c29, c34⟩)
 refine wp_skip <| hK11 _ _ <| wp_seq_k fun K14 hK14 => ws fun K15 hK15 => gb 3 1 hF hS rfl rfl rfl fun a hF => gf hK15 0 hF hS rfl rfl rfl fun a hF => ?_
 first | refine wc_dec (hF.ev rfl) (fun c29 => ?_) (fun c29 => ?_) | refine wc_ndec (hF.ev rfl) (fun c29 => ?_) (fun c29 => ?_) | refine wc_b (hF.ev rfl) (fun c29 => ?_) (fun c29 => ?_)
 ·
  refine rg hF rfl fun a hF => ?_
  refine xr ?_
  refine ret1 rfl hF rfl ⟨congrArg Value.bool (Eq.symm ?_), hS.old⟩
  first | exact decide_eq_false (fun e => by subst e; first | exact c9 rfl | exact c14 rfl | exact c19 rfl | exact c24 rfl | exact c29 rfl | exact c34 rfl) | exact decide_eq_true (by cases x; cases y; simp only [Config.mk.injEq]; exact ⟨c9, c14, c19, c24, c29, c34⟩)
 refine wp_skip <| hK14 _ _ <| wp_seq_k fun K17 hK17 => ws fun K18 hK18 => gb 3 1 hF hS rfl rfl rfl fun a hF => gf hK18 0 hF hS rfl rfl rfl fun a hF => ?_
 first | refine wc_dec (hF.ev rfl) (fun c34 => ?_) (fun c34 => ?_) | refine wc_ndec (hF.ev rfl) (fun c34 => ?_) (fun c34 => ?_) | refine wc_b (hF.ev rfl) (fun c34 => ?_) (fun c34 => ?_)
 ·
  refine rg hF rfl fun a hF => ?_
  refine xr ?_
  refine ret1 rfl hF rfl ⟨congrArg Value.bool (Eq.symm ?_), hS.old⟩
  first | exact decide_eq_false (fun e => by subst e; first | exact c9 rfl | exact c14 rfl | exact c19 rfl | exact c24 rfl | exact c29 rfl | exact c34 rfl) | exact decide_eq_true (by cases x; cases y; simp only [Config.mk.injEq]; exact ⟨c9, c14, c19, c24, c29, c34⟩)
 refine wp_skip <| hK17 _ _ <| rg hF rfl fun a hF => ?_
 refine xr ?_
 refine ret1 rfl hF rfl ⟨congrArg Value.bool (Eq.symm ?_), hS.old⟩
 first | exact decide_eq_false (fun e => by subst e; first | exact c9 rfl | exact c14 rfl | exact c19 rfl | exact c24 rfl | exact c29 rfl | exact c34 rfl) | exact decide_eq_true (by cases x; cases y; simp only [Config.mk.injEq]; exact ⟨c9, c14, c19, c24, c29, c34⟩)
def _root_.Go.Proofs.YtbgacfdnmbhloaaGreatDoor.Sl.State.size (t : Sl.State) : Nat := t.cells.length + t.generations.length + (t.threads.length + crow Sl.Thread.size t.threads)
theorem szState_c {W : World} {t : Sl.State} {cs : List Value} {left : Int} (hm : stateEK.K W t cs) (h0 : 0 ≤ left) (h1 : left ≤ 1048576) : Calls Tryz.prog 4 #[.agg cs.toArray, vi left] W (Ret fun v w' => (∃ r : Int, v = vi r ∧ -1 ≤ r ∧ r ≤ left ∧ (0 ≤ r → (t.size : Int) ≤ left - r)) ∧ Below W.heap.size W w') := by
 refine cfr Tryz.func4 Tryz.ntmps4 fun a hF => ?_
 obtain ⟨v0, v1, v2, rfl, r0, r1, r2⟩ := hm
 have hS := Sep.refl W
 refine ws fun K1 hK1 => wl_box (cs := [_, _, _, _, _, _, _, _, _, _, _, _, _]) hF hS rfl (hF.ev rfl) rfl fun g1 w1 a hS _ hF => ge hK1 hF rfl fun a hF => ws fun K2 hK2 => gb 3 0 hF hS rfl rfl rfl fun a hF => ?_
 refine ck hF rfl (szIntS_c (hS.rd r0) (by omega) (by omega)) ?_; rintro v w2 a ⟨⟨r8, rfl, e1_8, e2_8, e3_8⟩, hB_⟩ hF; have hS := hS.ext hB_
 refine ge hK2 hF rfl fun a hF => wp_seq_k fun K3 hK3 => rg hF rfl fun a hF => ?_
 first | refine wc_dec (hF.ev rfl) (fun c10 => ?_) (fun c10 => ?_) | refine wc_ndec (hF.ev rfl) (fun c10 => ?_) (fun c10 => ?_) | refine wc_b (hF.ev rfl) (fun c10 => ?_) (fun c10 => ?_)
 ·
  refine rg hF rfl fun a hF => ?_
  refine xr ?_
  first | exact ret1 rfl hF rfl ⟨⟨-1, rfl, by omega, by omega, by omega⟩, hS.old⟩ | exact ret1 rfl hF rfl ⟨⟨_, rfl, by omega, by omega, fun h => by unfold Sl.State.size; omega⟩, hS.old⟩
 refine wp_skip <| hK3 _ _ <| ws fun K6 hK6 => gb 3 0 hF hS rfl rfl rfl fun a hF => ?_
 refine ck hF rfl (szIntS_c (hS.rd r1) (by omega) (by omega)) ?_; rintro v w3 a ⟨⟨r14, rfl, e1_14, e2_14, e3_14⟩, hB_⟩ hF; have hS := hS.ext hB_
 refine ge hK6 hF rfl fun a hF => wp_seq_k fun K7 hK7 => rg hF rfl fun a hF => ?_
 first | refine wc_dec (hF.ev rfl) (fun c16 => ?_) (fun c16 => ?_) | refine wc_ndec (hF.ev rfl) (fun c16 => ?_) (fun c16 => ?_) | refine wc_b (hF.ev rfl) (fun c16 => ?_) (fun c16 => ?_)
 ·
  refine rg hF rfl fun a hF => ?_
  refine xr ?_
  first | exact ret1 rfl hF rfl ⟨⟨-1, rfl, by omega, by omega, by omega⟩, hS.old⟩ | exact ret1 rfl hF rfl ⟨⟨_, rfl, by omega, by omega, fun h => by unfold Sl.State.size; omega⟩, hS.old⟩
 refine wp_skip <| hK7 _ _ <| ws fun K10 hK10 => gb 3 0 hF hS rfl rfl rfl fun a hF => ?_
 refine ck hF rfl (szThreadS_c (hS.rd r2) (by omega) (by omega)) ?_; rintro v w4 a ⟨⟨r20, rfl, e1_20, e2_20, e3_20⟩, hB_⟩ hF; have hS := hS.ext hB_
 refine ge hK10 hF rfl fun a hF => wp_seq_k fun K11 hK11 => rg hF rfl fun a hF => ?_
 first | refine wc_dec (hF.ev rfl) (fun c22 => ?_) (fun c22 => ?_) | refine wc_ndec (hF.ev rfl) (fun c22 => ?_) (fun c22 => ?_) | refine wc_b (hF.ev rfl) (fun c22 => ?_) (fun c22 => ?_)
 ·
  refine rg hF rfl fun a hF => ?_
  refine xr ?_
  first | exact ret1 rfl hF rfl ⟨⟨-1, rfl, by omega, by omega, by omega⟩, hS.old⟩ | exact ret1 rfl hF rfl ⟨⟨_, rfl, by omega, by omega, fun h => by unfold Sl.State.size; omega⟩, hS.old⟩
 refine wp_skip <| hK11 _ _ <| rg hF rfl fun a hF => ?_
 refine xr ?_
 first | exact ret1 rfl hF rfl ⟨⟨-1, rfl, by omega, by omega, by omega⟩, hS.old⟩ | exact ret1 rfl hF rfl ⟨⟨_, rfl, by omega, by omega, fun h => by unfold Sl.State.size; omega⟩, hS.old⟩
theorem toState_c {W : World} {t : Sl.State} {cs : List Value} (hm : stateEK.K W t cs) (hz : t.size ≤ 1048576) : Calls Tryz.prog 6 #[.agg cs.toArray] W (Ret (Mk W (fun vs => .agg (stateEK.cells t vs).toArray) (fun vs => [Part stateEK t vs]))) := by
 refine cfr Tryz.func6 Tryz.ntmps6 fun a hF => ?_
 obtain ⟨v0, v1, v2, rfl, r0, r1, r2⟩ := hm
 unfold Sl.State.size at hz
 have hS := Sep.refl W
 refine ws fun K1 hK1 => wl_box (cs := [_, _, _, _, _, _, _, _, _, _, _, _, _]) hF hS rfl (hF.ev rfl) rfl fun g1 w1 a hS _ hF => wl_alloc hF hS rfl zr33 fun g2 w2 a hS _ hF => wl_nil <| hK1 _ _ <| ws fun K2 hK2 => wl_alloc hF hS rfl zr33 fun g3 w3 a hS _ hF => wl_nil (hK2 _ _ ?_)
 refine ws fun K3 hK3 => ga 1 hF rfl fun a hF => wl hF rfl rfl rfl (r_loadn ag23 (hF.ev rfl) (hS.boxn (vs := [_, _, _, _, _, _]) (i := 2) (m := 6) rfl rfl) sz23) fun a hF => ckr hF hS rfl (toConfig_c _) fun w4 a hS hF => ga 1 hF rfl fun a hF => ?_
 refine wl_storen (cs' := [_, _, _, _, _, _, _, _, _, _, _, _, _]) hF hS (i := 0) rfl (hF.ev rfl) (hF.ev rfl) sz30 ⟨rfl, rfl⟩ rfl rfl fun w5 hS => ?_; dsimp only [List.set] at hS
 refine wl_nil <| hK3 _ _ <| ws fun K4 hK4 => gb 2 2 hF hS rfl rfl rfl fun a hF => ?_
 refine wl_mk hF hS rfl rfl rfl (r_call1 en16 (hF.ev rfl)) (toIntS_c (hS.rd r0) (by omega)) ?_; rintro s10 w6 a hS_ hF; replace hS := hS_; clear hS_; dsimp only [List.cons_append, List.nil_append] at hS
 refine ga 1 hF rfl fun a hF => wv 1 hF hS rfl rfl rfl rfl rfl rfl fun w7 hS => wl_nil <| hK4 _ _ <| ws fun K5 hK5 => gb 2 3 hF hS rfl rfl rfl fun a hF => ?_
 refine wl_mk hF hS rfl rfl rfl (r_call1 en16 (hF.ev rfl)) (toIntS_c (hS.rd r1) (by omega)) ?_; rintro s14 w8 a hS_ hF; replace hS := hS_; clear hS_; dsimp only [List.cons_append, List.nil_append] at hS
 refine ga 1 hF rfl fun a hF => wv 2 hF hS rfl rfl rfl rfl rfl rfl fun w9 hS => wl_nil <| hK5 _ _ <| ws fun K6 hK6 => gb 2 4 hF hS rfl rfl rfl fun a hF => ?_
 refine wl_mk hF hS rfl rfl rfl (r_call1 en17 (hF.ev rfl)) (toThreadS_c (hS.rd r2) (by omega)) ?_; rintro s18 w10 a hS_ hF; replace hS := hS_; clear hS_; dsimp only [List.cons_append, List.nil_append] at hS
 refine ga 1 hF rfl fun a hF => wv 3 hF hS rfl rfl rfl rfl rfl rfl fun w11 hS => wl_nil <| hK6 _ _ <| ws fun K7 hK7 => gb 3 5 hF hS rfl rfl rfl fun a hF => wv 3 hF hS rfl rfl rfl rfl rfl rfl fun w12 hS => wl_nil (hK7 _ _ ?_)
 refine ws fun K8 hK8 => gb 3 5 hF hS rfl rfl rfl fun a hF => wv 3 hF hS rfl rfl rfl rfl rfl rfl fun w13 hS => wl_nil <| hK8 _ _ <| ws fun K9 hK9 => gb 3 5 hF hS rfl rfl rfl fun a hF => wv 3 hF hS rfl rfl rfl rfl rfl rfl fun w14 hS => ?_
 refine wl_nil <| hK9 _ _ <| ws fun K10 hK10 => gb 3 5 hF hS rfl rfl rfl fun a hF => wv 3 hF hS rfl rfl rfl rfl rfl rfl fun w15 hS => wl_nil <| hK10 _ _ <| ws fun K11 hK11 => gb 1 3 hF hS rfl rfl rfl fun a hF => ?_
 refine ww 4 hF hS rfl rfl rfl rfl rfl rfl fun w16 hS => wl_nil (hK11 _ _ ?_)
 refine xr ?_
 exact ret1c rfl ag33 hF hS (i := 4) rfl sz33 rfl ⟨[s10, s14, s18], rfl, hS.part_of [2, 1, 0] (by decide) rfl⟩
theorem eqState_c {W : World} {x y : Sl.State} {cs ds : List Value} (hx : stateEK.K W x cs) (hy : stateEK.K W y ds) : Calls Tryz.prog 8 #[.agg cs.toArray, .agg ds.toArray] W (Ret fun v w' => v = .bool (decide (x = y)) ∧ Below W.heap.size W w') := by
 refine cfr Tryz.func8 Tryz.ntmps8 fun a hF => ?_
 obtain ⟨v0, v1, v2, rfl, r0, r1, r2⟩ := hx
 obtain ⟨u0, u1, u2, rfl, q0, q1, q2⟩ := hy
 have hS := Sep.refl W
 refine ws fun K1 hK1 => wl_box (cs := [_, _, _, _, _, _, _, _, _, _, _, _, _]) hF hS rfl (hF.ev rfl) rfl fun g1 w1 a hS _ hF => wl_box (cs := [_, _, _, _, _, _, _, _, _, _, _, _, _]) hF hS rfl (hF.ev rfl) rfl fun g2 w2 a hS _ hF => ge hK1 hF rfl fun a hF => wp_seq_k fun K2 hK2 => ws fun K3 hK3 => ga 1 hF rfl fun a hF => ?_
 refine wl hF rfl rfl rfl (r_loadn ag30 (hF.ev rfl) (hS.boxn (vs := [_, _, _, _, _, _]) (i := 1) (m := 6) rfl rfl) sz30) fun a hF => ga 1 hF rfl fun a hF => wl hF rfl rfl rfl (r_loadn ag30 (hF.ev rfl) (hS.boxn (vs := [_, _, _, _, _, _]) (i := 0) (m := 6) rfl rfl) sz30) fun a hF => ckr hF hS rfl (eqConfig_c (x := x.config) (y := y.config)) fun w3 a hS hF => ge hK3 hF rfl fun a hF => ?_
 first | refine wc_dec (hF.ev rfl) (fun c10 => ?_) (fun c10 => ?_) | refine wc_ndec (hF.ev rfl) (fun c10 => ?_) (fun c10 => ?_) | refine wc_b (hF.ev rfl) (fun c10 => ?_) (fun c10 => ?_)
 ·
  refine rg hF rfl fun a hF => ?_
  refine xr ?_
  refine ret1 rfl hF rfl ⟨congrArg Value.bool (Eq.symm ?_), hS.old⟩
  first | exact decide_eq_false (fun e => by subst e; first | exact c10 rfl | exact c16 rfl | exact c22 rfl | exact c28 rfl | exact c33 rfl | exact c38 rfl | exact c43 rfl | exact c48 rfl) | exact decide_eq_true (by cases x; cases y; simp only [Sl.State.mk.injEq]; exact ⟨c10, c16, c22, c28, c33, c38, c43, c48⟩)
 refine wp_skip <| hK2 _ _ <| wp_seq_k fun K5 hK5 => ws fun K6 hK6 => gb 3 1 hF hS rfl rfl rfl fun a hF => gb 1 0 hF hS rfl rfl rfl fun a hF => ckr hF hS rfl (eqIntS_c (hS.rd r0) (hS.rd q0)) fun w4 a hS hF => ?_
 refine ge hK6 hF rfl fun a hF => ?_
 first | refine wc_dec (hF.ev rfl) (fun c16 => ?_) (fun c16 => ?_) | refine wc_ndec (hF.ev rfl) (fun c16 => ?_) (fun c16 => ?_) | refine wc_b (hF.ev rfl) (fun c16 => ?_) (fun c16 => ?_)
 ·
  refine rg hF rfl fun a hF => ?_
  refine xr ?_
  refine ret1 rfl hF rfl ⟨congrArg Value.bool (Eq.symm ?_), hS.old⟩
  first | exact decide_eq_false (fun e => by subst e; first | exact c10 rfl | exact c16 rfl | exact c22 rfl | exact c28 rfl | exact c33 rfl | exact c38 rfl | exact c43 rfl | exact c48 rfl) | exact decide_eq_true (by cases x; cases y; simp only [Sl.State.mk.injEq]; exact ⟨c10, c16, c22, c28, c33, c38, c43, c48⟩)
 refine wp_skip <| hK5 _ _ <| wp_seq_k fun K8 hK8 => ws fun K9 hK9 => gb 3 1 hF hS rfl rfl rfl fun a hF => gb 1 0 hF hS rfl rfl rfl fun a hF => ckr hF hS rfl (eqIntS_c (hS.rd r1) (hS.rd q1)) fun w5 a hS hF => ?_
 refine ge hK9 hF rfl fun a hF => ?_
 first | refine wc_dec (hF.ev rfl) (fun c22 => ?_) (fun c22 => ?_) | refine wc_ndec (hF.ev rfl) (fun c22 => ?_) (fun c22 => ?_) | refine wc_b (hF.ev rfl) (fun c22 => ?_) (fun c22 => ?_)
 ·
  refine rg hF rfl fun a hF => ?_
  refine xr ?_
  refine ret1 rfl hF rfl ⟨congrArg Value.bool (Eq.symm ?_), hS.old⟩
  first | exact decide_eq_false (fun e => by subst e; first | exact c10 rfl | exact c16 rfl | exact c22 rfl | exact c28 rfl | exact c33 rfl | exact c38 rfl | exact c43 rfl | exact c48 rfl) | exact decide_eq_true (by cases x; cases y; simp only [Sl.State.mk.injEq]; exact ⟨c10, c16, c22, c28, c33, c38, c43, c48⟩)
 refine wp_skip <| hK8 _ _ <| wp_seq_k fun K11 hK11 => ws fun K12 hK12 => gb 3 1 hF hS rfl rfl rfl fun a hF => gb 1 0 hF hS rfl rfl rfl fun a hF => ckr hF hS rfl (eqThreadS_c (hS.rd r2) (hS.rd q2)) fun w6 a hS hF => ?_
 refine ge hK12 hF rfl fun a hF => ?_
 first | refine wc_dec (hF.ev rfl) (fun c28 => ?_) (fun c28 => ?_) | refine wc_ndec (hF.ev rfl) (fun c28 => ?_) (fun c28 => ?_) | refine wc_b (hF.ev rfl) (fun c28 => ?_) (fun c28 => ?_)
 ·
  refine rg hF rfl fun a hF => ?_
  refine xr ?_
  refine ret1 rfl hF rfl ⟨congrArg Value.bool (Eq.symm ?_), hS.old⟩
  first | exact decide_eq_false (fun e => by subst e; first | exact c10 rfl | exact c16 rfl | exact c22 rfl | exact c28 rfl | exact c33 rfl | exact c38 rfl | exact c43 rfl | exact c48 rfl) | exact decide_eq_true (by cases x; cases y; simp only [Sl.State.mk.injEq]; exact ⟨c10, c16, c22, c28, c33, c38, c43, c48⟩)
 refine wp_skip <| hK11 _ _ <| wp_seq_k fun K14 hK14 => ws fun K15 hK15 => gb 3 1 hF hS rfl rfl rfl fun a hF => gf hK15 0 hF hS rfl rfl rfl fun a hF => ?_
 first | refine wc_dec (hF.ev rfl) (fun c33 => ?_) (fun c33 => ?_) | refine wc_ndec (hF.ev rfl) (fun c33 => ?_) (fun c33 => ?_) | refine wc_b (hF.ev rfl) (fun c33 => ?_) (fun c33 => ?_)
 ·
  refine rg hF rfl fun a hF => ?_
  refine xr ?_
  refine ret1 rfl hF rfl ⟨congrArg Value.bool (Eq.symm ?_), hS.old⟩
  first | exact decide_eq_false (fun e => by subst e; first | exact c10 rfl | exact c16 rfl | exact c22 rfl | exact c28 rfl | exact c33 rfl | exact c38 rfl | exact c43 rfl | exact c48 rfl) | exact decide_eq_true (by cases x; cases y; simp only [Sl.State.mk.injEq]; exact ⟨c10, c16, c22, c28, c33, c38, c43, c48⟩)
 refine wp_skip <| hK14 _ _ <| wp_seq_k fun K17 hK17 => ws fun K18 hK18 => gb 3 1 hF hS rfl rfl rfl fun a hF => gf hK18 0 hF hS rfl rfl rfl fun a hF => ?_
 first | refine wc_dec (hF.ev rfl) (fun c38 => ?_) (fun c38 => ?_) | refine wc_ndec (hF.ev rfl) (fun c38 => ?_) (fun c38 => ?_) | refine wc_b (hF.ev rfl) (fun c38 => ?_) (fun c38 => ?_)
 ·
  refine rg hF rfl fun a hF => ?_
  refine xr ?_
  refine ret1 rfl hF rfl ⟨congrArg Value.bool (Eq.symm ?_), hS.old⟩
  first | exact decide_eq_false (fun e => by subst e; first | exact c10 rfl | exact c16 rfl | exact c22 rfl | exact c28 rfl | exact c33 rfl | exact c38 rfl | exact c43 rfl | exact c48 rfl) | exact decide_eq_true (by cases x; cases y; simp only [Sl.State.mk.injEq]; exact ⟨c10, c16, c22, c28, c33, c38, c43, c48⟩)
 refine wp_skip <| hK17 _ _ <| wp_seq_k fun K20 hK20 => ws fun K21 hK21 => gb 3 1 hF hS rfl rfl rfl fun a hF => gf hK21 0 hF hS rfl rfl rfl fun a hF => ?_
 first | refine wc_dec (hF.ev rfl) (fun c43 => ?_) (fun c43 => ?_) | refine wc_ndec (hF.ev rfl) (fun c43 => ?_) (fun c43 => ?_) | refine wc_b (hF.ev rfl) (fun c43 => ?_) (fun c43 => ?_)
 ·
  refine rg hF rfl fun a hF => ?_
  refine xr ?_
  refine ret1 rfl hF rfl ⟨congrArg Value.bool (Eq.symm ?_), hS.old⟩
  first | exact decide_eq_false (fun e => by subst e; first | exact c10 rfl | exact c16 rfl | exact c22 rfl | exact c28 rfl | exact c33 rfl | exact c38 rfl | exact c43 rfl | exact c48 rfl) | exact decide_eq_true (by cases x; cases y; simp only [Sl.State.mk.injEq]; exact ⟨c10, c16, c22, c28, c33, c38, c43, c48⟩)
 refine wp_skip <| hK20 _ _ <| wp_seq_k fun K23 hK23 => ws fun K24 hK24 => gb 3 1 hF hS rfl rfl rfl fun a hF => gf hK24 0 hF hS rfl rfl rfl fun a hF => ?_
 first | refine wc_dec (hF.ev rfl) (fun c48 => ?_) (fun c48 => ?_) | refine wc_ndec (hF.ev rfl) (fun c48 => ?_) (fun c48 => ?_) | refine wc_b (hF.ev rfl) (fun c48 => ?_) (fun c48 => ?_)
 ·
  refine rg hF rfl fun a hF => ?_
  refine xr ?_
  refine ret1 rfl hF rfl ⟨congrArg Value.bool (Eq.symm ?_), hS.old⟩
  first | exact decide_eq_false (fun e => by subst e; first | exact c10 rfl | exact c16 rfl | exact c22 rfl | exact c28 rfl | exact c33 rfl | exact c38 rfl | exact c43 rfl | exact c48 rfl) | exact decide_eq_true (by cases x; cases y; simp only [Sl.State.mk.injEq]; exact ⟨c10, c16, c22, c28, c33, c38, c43, c48⟩)
 refine wp_skip <| hK23 _ _ <| rg hF rfl fun a hF => ?_
 refine xr ?_
 refine ret1 rfl hF rfl ⟨congrArg Value.bool (Eq.symm ?_), hS.old⟩
 first | exact decide_eq_false (fun e => by subst e; first | exact c10 rfl | exact c16 rfl | exact c22 rfl | exact c28 rfl | exact c33 rfl | exact c38 rfl | exact c43 rfl | exact c48 rfl) | exact decide_eq_true (by cases x; cases y; simp only [Sl.State.mk.injEq]; exact ⟨c10, c16, c22, c28, c33, c38, c43, c48⟩)
theorem eqState_same {W : World} {x : Sl.State} {cs ds : List Value} (hx : stateEK.K W x cs) (hy : stateEK.K W x ds) : Calls Tryz.prog 8 #[.agg cs.toArray, .agg ds.toArray] W (Ret fun v w' => v = .bool true ∧ Below W.heap.size W w') := by
 refine (eqState_c hx hy).mono ?_
 rintro e w' ⟨v, rfl, rfl, hb⟩
 exact ⟨_, rfl, by simp, hb⟩
set_option maxRecDepth 20000
theorem headCell_eq {c : Config} {k : Int} (hok : c.ok) (h0 : 0 ≤ k) (h1 : k < c.keys) : headCell c k = 2 + 3 * c.threads + k := by
 unfold headCell; rw [if_pos ⟨hok, h0, by omega⟩]
theorem nodeCell_eq {c : Config} {i f : Int} (hok : c.ok) (h0 : 0 ≤ i) (h1 : i < c.capacity) (h2 : 0 ≤ f) (h3 : f ≤ 2) : nodeCell c i f = 2 + 3 * c.threads + c.keys + 3 * i + f := by
 unfold nodeCell; rw [if_pos ⟨hok, ⟨h0, by omega⟩, h2, h3⟩]
theorem cellCount_eq {c : Config} (hok : c.ok) : cellCount c = 2 + 3 * c.threads + c.keys + 3 * c.capacity := by
 unfold cellCount; rw [if_pos hok]
section
variable {s : State}
theorem st_shape (h : ¬ shapeOk s) : stateOk s = false := by unfold stateOk; rw [decide_eq_false h]; rfl
theorem st_counts (h : ¬ countsOk s) : stateOk s = false := by unfold stateOk; rw [decide_eq_false h]; simp
theorem st_gens (h : gensOk s = false) : stateOk s = false := by unfold stateOk; rw [h]; simp
theorem st_heads (h : headsOk s = false) : stateOk s = false := by unfold stateOk; rw [h]; simp
theorem st_nodes (h : nodesOk s = false) : stateOk s = false := by unfold stateOk; rw [h]; simp
theorem st_threads (h : s.threads.all (threadOk s.config) = false) : stateOk s = false := by unfold stateOk; rw [h]; simp
theorem st_yes (h1 : shapeOk s) (h2 : gensOk s = true) (h3 : headsOk s = true) (h4 : nodesOk s = true) : stateOk s = (s.threads.all (threadOk s.config) && decide (countsOk s)) := by
 unfold stateOk; rw [decide_eq_true h1, h2, h3, h4]; simp
end
theorem indexFuncT_c {W : World} {va : Value} {xs : List Sl.Thread} {f : FuncId} {cap : Array Value} {p : Sl.Thread → Bool} (ha : threadEK.Rd W va xs) (hen : enterB Tryz.prog f = true) (hf : ∀ (w : World) (cs : List Value) (x : Sl.Thread), x ∈ xs → Below W.heap.size W w → threadEK.K w x cs → Calls Tryz.prog f (#[.agg cs.toArray] ++ cap) w (Ret fun v w' => v = .bool (p x) ∧ Below w.heap.size w w')) : Calls Tryz.prog 70 #[va, .func (.func f) #[] cap] W (Ret fun v w' => (∃ j : Int, v = vi j ∧ (0 ≤ j ↔ xs.any p = true)) ∧ Below W.heap.size W w') := by
 refine cfr Tryz.func70 Tryz.ntmps70 fun a hF => ?_
 obtain ⟨A_a, q_a, rfl, hq_a, hn_a⟩ := ha.sl; unfold maxLen at hn_a
 have hS := Sep.refl W
 refine rg hF rfl fun a hF => wp_seq_k fun K2 hK2 => rg hF rfl fun a hF => wp_block <| wp_loop_g (σ := Nat) (fun k a w => k ≤ xs.length ∧ (xs.take k).any p = false ∧ Sep W [] w ∧ Fr 19 [(8, vi k), (7, vi xs.length), (1, .func (.func f) #[] cap), (0, .slice A_a xs.length q_a)] a) (fun k => xs.length - k) 0 ?_ ?_
 · exact ⟨Nat.zero_le _, by simp, hS, ((((hF.nil.keep hF (t := 0) rfl).keep hF (t := 1) rfl).keep hF (t := 7) rfl).keep hF (t := 8) rfl)⟩
 rintro k a w ⟨hk, hn, hS, hF⟩
 refine rg hF rfl fun a hF => wp_seq_k fun K5 hK5 => ?_
 first | refine wc_dec (hF.ev rfl) (fun c9 => ?_) (fun c9 => ?_) | refine wc_ndec (hF.ev rfl) (fun c9 => ?_) (fun c9 => ?_) | refine wc_b (hF.ev rfl) (fun c9 => ?_) (fun c9 => ?_)
 ·
  have hlt : k < xs.length := by omega
  obtain ⟨x, hx⟩ : ∃ x, xs[k]? = some x := ⟨_, List.getElem?_eq_getElem hlt⟩
  refine wp_skip <| hK5 _ _ <| wp_seq_k fun K6 hK6 => wp_block <| rg hF rfl fun a hF => ws fun K8 hK8 => ga 3 hF rfl fun a hF => ?_
  obtain ⟨g14, o14, m14, q14, cs14, hv14, hm14, hl14, hk14, hz14, hc14⟩ := Rd.idx (ha) hx
  refine wl hF rfl rfl rfl (r_index sl31 ((hF.ev rfl).trans hv14) (hF.ev rfl) (by omega) (by omega)) fun a hF => wl hF rfl rfl rfl (r_loadn ag68 (hF.ev rfl) (fun j_ u_ hu_ => cellB hS.old (hc14 j_ u_ hu_)) (sz68.trans (congrArg some hz14.symm))) fun a hF => ?_
  refine wl_call hF rfl rfl rfl (r_callv1 hen (hF.ev rfl) (hF.ev rfl)) (hf _ cs14 x (List.mem_of_getElem? hx) hS.old (threadEK.ext hS.old hk14)) ?_; rintro v w1 a ⟨rfl, hB_⟩ hF; have hS := hS.ext hB_
  refine wl_nil (hK8 _ _ ?_)
  first | refine wc_dec (hF.ev rfl) (fun c16 => ?_) (fun c16 => ?_) | refine wc_ndec (hF.ev rfl) (fun c16 => ?_) (fun c16 => ?_) | refine wc_b (hF.ev rfl) (fun c16 => ?_) (fun c16 => ?_)
  ·
   refine rg hF rfl fun a hF => ?_
   refine xr ?_
   first | exact ret1 rfl hF rfl ⟨⟨_, rfl, ⟨fun _ => any_at hx c16, fun _ => by omega⟩⟩, hS.old⟩ | exact ret1 rfl hF rfl ⟨⟨_, rfl, ⟨fun h => absurd h (by omega), fun h => absurd h (by rw [any_all hn hk (by assumption)]; decide)⟩⟩, hS.old⟩
  refine wp_skip ?_
  refine xt ?_
  refine hK6 _ _ <| rl hF rfl fun a hF => ?_
  refine xt ?_
  exact ⟨k + 1, ⟨by omega, any_next hn hx c16, hS, ((((hF.nil.keep hF (t := 0) rfl).keep hF (t := 1) rfl).keep hF (t := 7) rfl).keepE hF (t := 8) rfl (wk (by omega)))⟩, by omega⟩
 refine wp_exit ?_
 refine xt ?_
 refine hK2 _ _ <| rg hF rfl fun a hF => ?_
 refine xr ?_
 first | exact ret1 rfl hF rfl ⟨⟨_, rfl, ⟨fun _ => any_at hx c16, fun _ => by omega⟩⟩, hS.old⟩ | exact ret1 rfl hF rfl ⟨⟨_, rfl, ⟨fun h => absurd h (by omega), fun h => absurd h (by rw [any_all hn hk (by assumption)]; decide)⟩⟩, hS.old⟩
theorem containsFuncT_c {W : World} {va : Value} {xs : List Sl.Thread} {f : FuncId} {cap : Array Value} {p : Sl.Thread → Bool} (ha : threadEK.Rd W va xs) (hen : enterB Tryz.prog f = true) (hf : ∀ (w : World) (cs : List Value) (x : Sl.Thread), x ∈ xs → Below W.heap.size W w → threadEK.K w x cs → Calls Tryz.prog f (#[.agg cs.toArray] ++ cap) w (Ret fun v w' => v = .bool (p x) ∧ Below w.heap.size w w')) : Calls Tryz.prog 47 #[va, .func (.func f) #[] cap] W (Ret fun v w' => v = .bool (xs.any p) ∧ Below W.heap.size W w') := by
 refine cfr Tryz.func47 Tryz.ntmps47 fun a hF => ?_
 have hS := Sep.refl W
 refine rg hF rfl fun a hF => ws fun K2 hK2 => ga 2 hF rfl fun a hF => ?_
 refine ck hF rfl (indexFuncT_c (hS.rd ha) hen hf) ?_; rintro v w1 a ⟨⟨j, rfl, hj⟩, hB_⟩ hF; have hS := hS.ext hB_
 refine ge hK2 hF rfl fun a hF => ?_
 refine xr ?_
 refine ret1 rfl hF rfl ⟨congrArg Value.bool ?_, hS.old⟩
 cases hb : xs.any p with
 | true => exact decide_eq_true (hj.2 hb)
 | false => exact decide_eq_false (fun h => by rw [hj.1 h] at hb; cases hb)
theorem isState1_c {W : World} {c : Config} {g : Nat} {t : Sl.Thread} {cs : List Value} (hm : threadEK.K W t cs) (hw : t.wf) (hok : c.ok) (hc : ∀ j u, c.enc[j]? = some u → W.cell? ⟨g, 0 + j, none⟩ = some u) : Calls Tryz.prog 48 #[.agg cs.toArray, .pointer (some ⟨g, 0, none⟩)] W (Ret fun v w' => v = .bool (!threadOk c t) ∧ Below W.heap.size W w') := by
 refine cfr Tryz.func48 Tryz.ntmps48 fun a hF => ?_
 have hS := Sep.refl W
 obtain ⟨v0, v1, v2, v3, v4, rfl, r0, r1, r2, r3, r4⟩ := hm
 have hm : threadEK.K W t (t.encv v0 v1 v2 v3 v4) := ⟨_, _, _, _, _, rfl, r0, r1, r2, r3, r4⟩
 refine ws fun K1 hK1 => wl_box (cs := [_, _, _, _, _, _, _, _, _, _, _, _, _, _, _, _, _, _, _]) hF hS rfl (hF.ev rfl) rfl fun g1 w1 a hS _ hF => ge hK1 hF rfl fun a hF => ws fun K2 hK2 => wl hF rfl rfl rfl (r_loadn ag30 (hF.ev rfl) (fun j_ u_ hu_ => cellB hS.old (hc j_ u_ hu_)) sz30) fun a hF => gb 1 0 hF hS rfl rfl rfl fun a hF => ckr hF hS rfl (isThread_c (hS.k hm) hw hok) fun w2 a hS hF => ?_
 refine ge hK2 hF rfl fun a hF => ?_
 refine xr ?_
 exact ret1 rfl hF rfl ⟨rfl, hS.old⟩
theorem implIsState_c {W : World} {s : Sl.State} {cs : List Value} (hm : stateEK.K W s cs) (hw : s.wf) (hz : (s.size : Int) ≤ 1048576) : Calls Tryz.prog 18 #[.agg cs.toArray] W (Ret fun v w' => v = .bool (stateOk s) ∧ Below W.heap.size W w') := by
 refine cfr Tryz.func18 Tryz.ntmps18 fun a hF => ?_
 have hS := Sep.refl W
 obtain ⟨v0, v1, v2, rfl, r0, r1, r2⟩ := hm
 obtain ⟨A_a, q_a, rfl, hq_a, hn_a⟩ := r0.sl; unfold maxLen at hn_a
 obtain ⟨A_b, q_b, rfl, hq_b, hn_b⟩ := r1.sl; unfold maxLen at hn_b
 obtain ⟨A_c, q_c, rfl, hq_c, hn_c⟩ := r2.sl; unfold maxLen at hn_c
 obtain ⟨wcfg, wcells, wgens, wthr, wsteps, wchanges, wretries, wfaults⟩ := hw
 have hz1 := hz; unfold Sl.State.size at hz1
 refine ws fun K1 hK1 => wl_box (cs := [_, _, _, _, _, _, _, _, _, _, _, _, _]) hF hS rfl (hF.ev rfl) rfl fun g1 w1 a hS _ hF => ge hK1 hF rfl fun a hF => ws fun K2 hK2 => ga 1 hF rfl fun a hF => wl hF rfl rfl rfl (r_loadn ag30 (hF.ev rfl) (hS.boxn (vs := [_, _, _, _, _, _]) (i := 0) (m := 6) rfl rfl) sz30) fun a hF => wl_alloc hF hS rfl zr30 fun g2 w2 a hS _ hF => ?_
 refine wl_storen (cs' := [_, _, _, _, _, _]) hF hS (i := 0) rfl (hF.ev rfl) (hF.ev rfl) sz30 ⟨rfl, rfl⟩ rfl rfl fun w3 hS => ?_; dsimp only [List.set] at hS
 refine wl_nil <| hK2 _ _ <| wp_seq_k fun K3 hK3 => wp_seq_k fun K4 hK4 => wp_region_calm (by kernel_rfl) (by kernel_rfl) <| qb 1 0 hF tk hS rfl rfl rfl fun a hF => qk hF rfl (fun w_ hB_ => implIsConfig_c _) fun a hF => qa 2 hF tk rfl fun a hF => ?_
 apply wq_or (A := [_, _, _, _, _, _, _]) (pk := 18) hF (tc := 11) rfl
 ·
  intro hg11 a hF; try simp only [zb] at hg11
  refine qb 3 1 hF tk hS rfl rfl rfl fun a hF => wq_take hF rfl rfl rfl rfl <| qb 1 0 hF tk hS rfl rfl rfl fun a hF => qk hF rfl (fun w_ hB_ => implCellCount_c _) fun a hF => qa 2 hF tk rfl fun a hF => ?_
  exact wpQuiet_nil ((Fr.pre (A := [_, _, _, _, _, _, _]) hF rfl).keep hF (t := 18) rfl)
 ·
  intro hg11 a hF; try simp only [zb] at hg11
  refine qa 7 hF tk rfl fun a hF => ?_
  exact wpQuiet_nil ((Fr.pre (A := [_, _, _, _, _, _, _]) hF rfl).keep hF (t := 18) rfl)
 intro a hF
 refine qa 1 hF tk rfl fun a hF => ?_
 apply wq_or (A := [_, _, _, _, _, _, _]) (pk := 26) hF (tc := 19) rfl
 ·
  intro hg19 a hF; try simp only [zb] at hg19
  refine qb 4 1 hF tk hS rfl rfl rfl fun a hF => wq_take hF rfl rfl rfl rfl <| qb 3 0 hF tk hS rfl rfl rfl fun a hF => ?_
  exact wpQuiet_nil ((Fr.pre (A := [_, _, _, _, _, _, _]) hF rfl).keep hF (t := 26) rfl)
 ·
  intro hg19 a hF; try simp only [zb] at hg19
  refine qa 7 hF tk rfl fun a hF => ?_
  exact wpQuiet_nil ((Fr.pre (A := [_, _, _, _, _, _, _]) hF rfl).keep hF (t := 26) rfl)
 intro a hF
 refine qa 1 hF tk rfl fun a hF => ?_
 apply wq_or (A := [_, _, _, _, _, _, _]) (pk := 34) hF (tc := 27) rfl
 ·
  intro hg27 a hF; try simp only [zb] at hg27
  refine qb 4 1 hF tk hS rfl rfl rfl fun a hF => wq_take hF rfl rfl rfl rfl <| qb 3 0 hF tk hS rfl rfl rfl fun a hF => ?_
  exact wpQuiet_nil ((Fr.pre (A := [_, _, _, _, _, _, _]) hF rfl).keep hF (t := 34) rfl)
 ·
  intro hg27 a hF; try simp only [zb] at hg27
  refine qa 7 hF tk rfl fun a hF => ?_
  exact wpQuiet_nil ((Fr.pre (A := [_, _, _, _, _, _, _]) hF rfl).keep hF (t := 34) rfl)
 intro a hF
 refine wpQuiet_nil ?_; intro w7 hB_; have hS := hS.ext hB_
 refine hK4 _ _ <| cx 34 hF rfl (fun c34 hF => ?_) fun c34 hF => ?_
 ·
  refine rg hF rfl fun a hF => ?_
  refine xr ?_
  refine ret1 rfl hF rfl ⟨congrArg Value.bool (Eq.symm ?_), hS.old⟩
  first
    | exact st_heads (range_no (by omega) c93)
    | exact st_shape fun h => by
        unfold shapeOk at h
        rcases c34 with ((c | c) | c) | c
        · exact c h.1
        · exact c h.2.1
        · exact c h.2.2.1
        · exact c h.2.2.2
    | (rcases c130 with (c | c) | c
       · exact st_gens (range_no (by omega) (decide_eq_false c))
       · exact st_nodes (range_no (k := k) (by omega) (Bool.and_eq_false_iff.2 (.inr (decide_eq_false c))))
       · exact st_nodes (range_no (k := k) (by omega) (Bool.and_eq_false_iff.2 (.inl (isLink_unmarked ▸ c)))))
    | (rw [st_yes ⟨hok, hl1, hl2, hl3⟩ (all_done hg (by rw [List.length_range]; omega)) (all_done hn (by rw [List.length_range]; omega)) (all_done hv (by rw [List.length_range]; omega)), any_not, Bool.not_not, decide_eq_true (show countsOk s from by unfold countsOk; omega), Bool.and_true])
    | exact st_counts fun h => by unfold countsOk at h; omega
 obtain ⟨⟨⟨hok, hl1⟩, hl2⟩, hl3⟩ := c34
 have hb := hok; unfold Config.ok at hb
 have hcc := cellCount_eq hok
 refine wp_skip <| hK3 _ _ <| wp_seq_k fun K6 hK6 => wp_seq_k fun K7 hK7 => wp_region_calm (by kernel_rfl) (by kernel_rfl) <| qb 2 1 hF tk hS rfl rfl rfl fun a hF => wq_call hF rfl rfl rfl (fun w_ hB_ => r_call0 en21 ) (fun w_ hB_ => implClockCell_c) fun a hF => ?_
 obtain ⟨g38, o38, m38, q38, hv38, hm38, hl38, hc38⟩ := Rd.atF (r0) (a := a) (X := .tmp 37) (hF.ev rfl) (by omega) (by omega)
 refine wq hF rfl rfl rfl (fun w_ hB_ => r_index sl24 ((hF.ev rfl).trans hv38) (hF.ev rfl) (by omega) (by first | omega | (simp at hm38; omega))) fun a hF => ?_
 refine wq hF rfl rfl rfl (fun w_ hB_ => r_load1 sc3 (hF.ev rfl) (cellB (hS.ext hB_).old (hc38 0 _ rfl))) fun a hF => qb 2 0 hF tk hS rfl rfl rfl fun a hF => qk hF rfl (fun w_ hB_ => in_c _ _ _) fun a hF => qa 2 hF tk rfl fun a hF => ?_
 apply wq_or (A := [_, _, _, _, _, _, _, _, _, _]) (pk := 54) hF (tc := 44) rfl
 ·
  intro hg44 a hF; try simp only [zb] at hg44
  refine qb 2 1 hF tk hS rfl rfl rfl fun a hF => wq_take hF rfl rfl rfl rfl <| wq_call hF rfl rfl rfl (fun w_ hB_ => r_call0 en42 ) (fun w_ hB_ => implArenaCell_c) fun a hF => wq_take hF rfl rfl rfl rfl ?_
  obtain ⟨g48, o48, m48, q48, hv48, hm48, hl48, hc48⟩ := Rd.atF (r0) (a := a) (X := .tmp 47) (hF.ev rfl) (by omega) (by omega)
  refine wq hF rfl rfl rfl (fun w_ hB_ => r_index sl24 ((hF.ev rfl).trans hv48) (hF.ev rfl) (by omega) (by first | omega | (simp at hm48; omega))) fun a hF => ?_
  refine wq_take hF rfl rfl rfl rfl <| wq hF rfl rfl rfl (fun w_ hB_ => r_load1 sc3 (hF.ev rfl) (cellB (hS.ext hB_).old (hc48 0 _ rfl))) fun a hF => qb 2 0 hF tk hS rfl rfl rfl fun a hF => qk hF rfl (fun w_ hB_ => in_c _ _ _) fun a hF => qa 2 hF tk rfl fun a hF => ?_
  exact wpQuiet_nil ((Fr.pre (A := [_, _, _, _, _, _, _, _, _, _]) hF rfl).keep hF (t := 54) rfl)
 ·
  intro hg44 a hF; try simp only [zb] at hg44
  refine qa 10 hF tk rfl fun a hF => ?_
  exact wpQuiet_nil ((Fr.pre (A := [_, _, _, _, _, _, _, _, _, _]) hF rfl).keep hF (t := 54) rfl)
 intro a hF
 refine qa 1 hF tk rfl fun a hF => ?_
 apply wq_or (A := [_, _, _, _, _]) (pk := 60) hF (tc := 55) rfl
 ·
  intro hg55 a hF; try simp only [zb] at hg55
  refine qb 2 1 hF tk hS rfl rfl rfl fun a hF => qk hF rfl (fun w_ hB_ => in_c _ _ _) fun a hF => qa 2 hF tk rfl fun a hF => ?_
  exact wpQuiet_nil ((Fr.pre (A := [_, _, _, _, _]) hF rfl).keep hF (t := 60) rfl)
 ·
  intro hg55 a hF; try simp only [zb] at hg55
  refine qa 5 hF tk rfl fun a hF => ?_
  exact wpQuiet_nil ((Fr.pre (A := [_, _, _, _, _]) hF rfl).keep hF (t := 60) rfl)
 intro a hF
 refine qa 1 hF tk rfl fun a hF => ?_
 apply wq_or (A := [_, _, _, _, _]) (pk := 66) hF (tc := 61) rfl
 ·
  intro hg61 a hF; try simp only [zb] at hg61
  refine qb 2 1 hF tk hS rfl rfl rfl fun a hF => qk hF rfl (fun w_ hB_ => in_c _ _ _) fun a hF => qa 2 hF tk rfl fun a hF => ?_
  exact wpQuiet_nil ((Fr.pre (A := [_, _, _, _, _]) hF rfl).keep hF (t := 66) rfl)
 ·
  intro hg61 a hF; try simp only [zb] at hg61
  refine qa 5 hF tk rfl fun a hF => ?_
  exact wpQuiet_nil ((Fr.pre (A := [_, _, _, _, _]) hF rfl).keep hF (t := 66) rfl)
 intro a hF
 refine qa 1 hF tk rfl fun a hF => ?_
 apply wq_or (A := [_, _, _, _, _]) (pk := 72) hF (tc := 67) rfl
 ·
  intro hg67 a hF; try simp only [zb] at hg67
  refine qb 2 1 hF tk hS rfl rfl rfl fun a hF => qk hF rfl (fun w_ hB_ => in_c _ _ _) fun a hF => qa 2 hF tk rfl fun a hF => ?_
  exact wpQuiet_nil ((Fr.pre (A := [_, _, _, _, _]) hF rfl).keep hF (t := 72) rfl)
 ·
  intro hg67 a hF; try simp only [zb] at hg67
  refine qa 5 hF tk rfl fun a hF => ?_
  exact wpQuiet_nil ((Fr.pre (A := [_, _, _, _, _]) hF rfl).keep hF (t := 72) rfl)
 intro a hF
 refine qa 1 hF tk rfl fun a hF => ?_
 apply wq_or (A := [_, _, _, _, _]) (pk := 78) hF (tc := 73) rfl
 ·
  intro hg73 a hF; try simp only [zb] at hg73
  refine qb 2 1 hF tk hS rfl rfl rfl fun a hF => qk hF rfl (fun w_ hB_ => in_c _ _ _) fun a hF => qa 2 hF tk rfl fun a hF => ?_
  exact wpQuiet_nil ((Fr.pre (A := [_, _, _, _, _]) hF rfl).keep hF (t := 78) rfl)
 ·
  intro hg73 a hF; try simp only [zb] at hg73
  refine qa 5 hF tk rfl fun a hF => ?_
  exact wpQuiet_nil ((Fr.pre (A := [_, _, _, _, _]) hF rfl).keep hF (t := 78) rfl)
 intro a hF
 refine wpQuiet_nil ?_; intro w13 hB_; have hS := hS.ext hB_
 refine hK7 _ _ <| cx 78 hF rfl (fun c78 hF => ?_) fun c78 hF => ?_
 ·
  refine rg hF rfl fun a hF => ?_
  refine xr ?_
  refine ret1 rfl hF rfl ⟨congrArg Value.bool (Eq.symm ?_), hS.old⟩
  first
    | exact st_heads (range_no (by omega) c93)
    | exact st_shape fun h => by
        unfold shapeOk at h
        rcases c34 with ((c | c) | c) | c
        · exact c h.1
        · exact c h.2.1
        · exact c h.2.2.1
        · exact c h.2.2.2
    | (rcases c130 with (c | c) | c
       · exact st_gens (range_no (by omega) (decide_eq_false c))
       · exact st_nodes (range_no (k := k) (by omega) (Bool.and_eq_false_iff.2 (.inr (decide_eq_false c))))
       · exact st_nodes (range_no (k := k) (by omega) (Bool.and_eq_false_iff.2 (.inl (isLink_unmarked ▸ c)))))
    | (rw [st_yes ⟨hok, hl1, hl2, hl3⟩ (all_done hg (by rw [List.length_range]; omega)) (all_done hn (by rw [List.length_range]; omega)) (all_done hv (by rw [List.length_range]; omega)), any_not, Bool.not_not, decide_eq_true (show countsOk s from by unfold countsOk; omega), Bool.and_true])
    | exact st_counts fun h => by unfold countsOk at h; omega
 refine wp_skip <| hK6 _ _ <| wp_seq_k fun K9 hK9 => rh 0 hF hS rfl rfl rfl fun a hF => wp_block ?_
 have hL_ := ((((hF.nil.keep hF (t := 80) rfl).keep hF (t := 3) rfl).keep hF (t := 2) rfl).keep hF (t := 1) rfl)
 refine wp_loop_r (σ := Nat) (fun k L_ => (81, vi k) :: L_) (fun k => (k ≤ s.config.keys.toNat) ∧ (((List.range s.config.keys.toNat).take k).all (fun k => isLink s.config (at0 s.cells (headCell s.config (k : Int)))) = true)) (fun k => s.config.keys.toNat - k) 0 hS (hL_.keepE hF (t := 81) rfl rfl) ?_ ?_
 · exact ⟨Nat.zero_le _, rfl⟩
 rintro k a w14 ⟨hk, hn⟩ hS hF; try dsimp only at hF; try dsimp only at hS
 refine rg hF rfl fun a hF => wp_seq_k fun K12 hK12 => cx 82 hF rfl (fun c82 hF => ?_) fun c82 hF => ?_
 ·
  have hd := headCell_eq hok (k := (k : Int)) (by omega) (by omega)
  have h1 : int64 (at0 s.cells (headCell s.config (k : Int))) := wcells _ (at0_mem (by omega) (by omega))
  refine wp_skip <| hK12 _ _ <| wp_seq_k fun K13 hK13 => wp_block <| rg hF rfl fun a hF => wp_seq_k fun K15 hK15 => wp_region_calm (by kernel_rfl) (by kernel_rfl) ?_
  refine qb 2 0 hF tk hS rfl rfl rfl fun a hF => qb 1 1 hF tk hS rfl rfl rfl fun a hF => qb 2 0 hF tk hS rfl rfl rfl fun a hF => qk hF rfl (fun w_ hB_ => implHeadCell_c _ _) fun a hF => ?_
  obtain ⟨g90, o90, m90, q90, hv90, hm90, hl90, hc90⟩ := Rd.atF (r0) (a := a) (X := .tmp 89) (hF.ev rfl) (by omega) (by omega)
  refine wq hF rfl rfl rfl (fun w_ hB_ => r_index sl24 ((hF.ev rfl).trans hv90) (hF.ev rfl) (by omega) (by first | omega | (simp at hm90; omega))) fun a hF => ?_
  refine wq hF rfl rfl rfl (fun w_ hB_ => r_load1 sc3 (hF.ev rfl) (cellB (hS.ext hB_).old (hc90 0 _ rfl))) fun a hF => qk hF rfl (fun w_ hB_ => isLink_c h1) fun a hF => qa 1 hF tk rfl fun a hF => ?_
  refine wpQuiet_nil ?_; intro w15 hB_; have hS := hS.ext hB_
  refine hK15 _ _ <| cx 93 hF rfl (fun c93 hF => ?_) fun c93 hF => ?_
  ·
   refine rg hF rfl fun a hF => ?_
   refine xr ?_
   refine ret1 rfl hF rfl ⟨congrArg Value.bool (Eq.symm ?_), hS.old⟩
   first
     | exact st_heads (range_no (by omega) c93)
     | exact st_shape fun h => by
         unfold shapeOk at h
         rcases c34 with ((c | c) | c) | c
         · exact c h.1
         · exact c h.2.1
         · exact c h.2.2.1
         · exact c h.2.2.2
     | (rcases c130 with (c | c) | c
        · exact st_gens (range_no (by omega) (decide_eq_false c))
        · exact st_nodes (range_no (k := k) (by omega) (Bool.and_eq_false_iff.2 (.inr (decide_eq_false c))))
        · exact st_nodes (range_no (k := k) (by omega) (Bool.and_eq_false_iff.2 (.inl (isLink_unmarked ▸ c)))))
     | (rw [st_yes ⟨hok, hl1, hl2, hl3⟩ (all_done hg (by rw [List.length_range]; omega)) (all_done hn (by rw [List.length_range]; omega)) (all_done hv (by rw [List.length_range]; omega)), any_not, Bool.not_not, decide_eq_true (show countsOk s from by unfold countsOk; omega), Bool.and_true])
     | exact st_counts fun h => by unfold countsOk at h; omega
  refine wp_skip ?_
  refine xt ?_
  refine hK13 _ _ <| rl hF rfl fun a hF => ?_
  refine xt ?_
  refine ⟨k + 1, ⟨by omega, all_nxt hn (range_at (by omega)) c93⟩, hS, (((((hF.nil.keep hF (t := 80) rfl).keep hF (t := 3) rfl).keep hF (t := 2) rfl).keep hF (t := 1) rfl).keepE hF (t := 81) rfl (wk (by omega))), by omega⟩
 refine wp_exit ?_
 refine xt ?_
 refine hK9 _ _ <| wp_seq_k fun K17 hK17 => rh 0 hF hS rfl rfl rfl fun a hF => wp_block ?_
 have hL_ := ((((hF.nil.keep hF (t := 96) rfl).keep hF (t := 3) rfl).keep hF (t := 2) rfl).keep hF (t := 1) rfl)
 refine wp_loop_r (σ := Nat) (fun k L_ => (97, vi k) :: L_) (fun k => (k ≤ s.config.capacity.toNat) ∧ (((List.range s.config.capacity.toNat).take k).all (fun k => decide (0 ≤ at0 s.generations (k : Int) ∧ at0 s.generations (k : Int) ≤ 9998)) = true) ∧ (((List.range s.config.capacity.toNat).take k).all (fun k => zeroOk s.config (at0 s.cells (nodeCell s.config (k : Int) 2)) && decide (0 ≤ at0 s.cells (nodeCell s.config (k : Int) 0) ∧ at0 s.cells (nodeCell s.config (k : Int) 0) ≤ 99)) = true)) (fun k => s.config.capacity.toNat - k) 0 hS (hL_.keepE hF (t := 97) rfl rfl) ?_ ?_
 · exact ⟨Nat.zero_le _, rfl, rfl⟩
 rintro k a w16 ⟨hk, hg, hv⟩ hS hF; try dsimp only at hF; try dsimp only at hS
 refine rg hF rfl fun a hF => wp_seq_k fun K20 hK20 => cx 98 hF rfl (fun c98 hF => ?_) fun c98 hF => ?_
 ·
  have hn0 := nodeCell_eq hok (i := (k : Int)) (f := 0) (by omega) (by omega) (by omega) (by omega)
  have hn2 := nodeCell_eq hok (i := (k : Int)) (f := 2) (by omega) (by omega) (by omega) (by omega)
  have h1 : int64 (at0 s.cells (nodeCell s.config (k : Int) 2)) := wcells _ (at0_mem (by omega) (by omega))
  refine wp_skip <| hK20 _ _ <| wp_seq_k fun K21 hK21 => wp_block <| rg hF rfl fun a hF => wp_seq_k fun K23 hK23 => wp_region_calm (by kernel_rfl) (by kernel_rfl) ?_
  refine qb 3 1 hF tk hS rfl rfl rfl fun a hF => ?_
  obtain ⟨g103, o103, m103, q103, hv103, hm103, hl103, hc103⟩ := Rd.atF (r1) (a := a) (X := .tmp 102) (hF.ev rfl) (by omega) (by omega)
  refine wq hF rfl rfl rfl (fun w_ hB_ => r_index sl24 ((hF.ev rfl).trans hv103) (hF.ev rfl) (by omega) (by first | omega | (simp at hm103; omega))) fun a hF => ?_
  refine wq hF rfl rfl rfl (fun w_ hB_ => r_load1 sc3 (hF.ev rfl) (cellB (hS.ext hB_).old (hc103 0 _ rfl))) fun a hF => qk hF rfl (fun w_ hB_ => in_c _ _ _) fun a hF => qa 2 hF tk rfl fun a hF => ?_
  apply wq_or (A := [_, _, _, _, _, _, _, _, _, _]) (pk := 117) hF (tc := 107) rfl
  ·
   intro hg107 a hF; try simp only [zb] at hg107
   refine qb 2 1 hF tk hS rfl rfl rfl fun a hF => wq_take hF rfl rfl rfl rfl <| qb 2 0 hF tk hS rfl rfl rfl fun a hF => qk hF rfl (fun w_ hB_ => implNodeCell_c _ _ _) fun a hF => wq_take hF rfl rfl rfl rfl ?_
   obtain ⟨g113, o113, m113, q113, hv113, hm113, hl113, hc113⟩ := Rd.atF (r0) (a := a) (X := .tmp 112) (hF.ev rfl) (by omega) (by omega)
   refine wq hF rfl rfl rfl (fun w_ hB_ => r_index sl24 ((hF.ev rfl).trans hv113) (hF.ev rfl) (by omega) (by first | omega | (simp at hm113; omega))) fun a hF => ?_
   refine wq_take hF rfl rfl rfl rfl <| wq hF rfl rfl rfl (fun w_ hB_ => r_load1 sc3 (hF.ev rfl) (cellB (hS.ext hB_).old (hc113 0 _ rfl))) fun a hF => qk hF rfl (fun w_ hB_ => in_c _ _ _) fun a hF => qa 2 hF tk rfl fun a hF => ?_
   exact wpQuiet_nil ((Fr.pre (A := [_, _, _, _, _, _, _, _, _, _]) hF rfl).keep hF (t := 117) rfl)
  ·
   intro hg107 a hF; try simp only [zb] at hg107
   refine qa 10 hF tk rfl fun a hF => ?_
   exact wpQuiet_nil ((Fr.pre (A := [_, _, _, _, _, _, _, _, _, _]) hF rfl).keep hF (t := 117) rfl)
  intro a hF
  refine qa 1 hF tk rfl fun a hF => ?_
  apply wq_or (A := [_, _, _, _, _, _, _, _, _, _, _, _]) (pk := 130) hF (tc := 118) rfl
  ·
   intro hg118 a hF; try simp only [zb] at hg118
   refine qb 2 0 hF tk hS rfl rfl rfl fun a hF => wq_take hF rfl rfl rfl rfl <| qb 1 1 hF tk hS rfl rfl rfl fun a hF => wq_take hF rfl rfl rfl rfl <| qb 2 0 hF tk hS rfl rfl rfl fun a hF => qk hF rfl (fun w_ hB_ => implNodeCell_c _ _ _) fun a hF => wq_take hF rfl rfl rfl rfl ?_
   obtain ⟨g125, o125, m125, q125, hv125, hm125, hl125, hc125⟩ := Rd.atF (r0) (a := a) (X := .tmp 124) (hF.ev rfl) (by omega) (by omega)
   refine wq hF rfl rfl rfl (fun w_ hB_ => r_index sl24 ((hF.ev rfl).trans hv125) (hF.ev rfl) (by omega) (by first | omega | (simp at hm125; omega))) fun a hF => ?_
   refine wq_take hF rfl rfl rfl rfl <| wq hF rfl rfl rfl (fun w_ hB_ => r_load1 sc3 (hF.ev rfl) (cellB (hS.ext hB_).old (hc125 0 _ rfl))) fun a hF => qk hF rfl (fun w_ hB_ => implUnmarked_c h1) fun a hF => qk hF rfl (fun w_ hB_ => isLink_c (int64_unmarked h1)) fun a hF => qa 2 hF tk rfl fun a hF => ?_
   exact wpQuiet_nil ((Fr.pre (A := [_, _, _, _, _, _, _, _, _, _, _, _]) hF rfl).keep hF (t := 130) rfl)
  ·
   intro hg118 a hF; try simp only [zb] at hg118
   refine qa 12 hF tk rfl fun a hF => ?_
   exact wpQuiet_nil ((Fr.pre (A := [_, _, _, _, _, _, _, _, _, _, _, _]) hF rfl).keep hF (t := 130) rfl)
  intro a hF
  refine wpQuiet_nil ?_; intro w19 hB_; have hS := hS.ext hB_
  refine hK23 _ _ <| cx 130 hF rfl (fun c130 hF => ?_) fun c130 hF => ?_
  ·
   refine rg hF rfl fun a hF => ?_
   refine xr ?_
   refine ret1 rfl hF rfl ⟨congrArg Value.bool (Eq.symm ?_), hS.old⟩
   first
     | exact st_heads (range_no (by omega) c93)
     | exact st_shape fun h => by
         unfold shapeOk at h
         rcases c34 with ((c | c) | c) | c
         · exact c h.1
         · exact c h.2.1
         · exact c h.2.2.1
         · exact c h.2.2.2
     | (rcases c130 with (c | c) | c
        · exact st_gens (range_no (by omega) (decide_eq_false c))
        · exact st_nodes (range_no (k := k) (by omega) (Bool.and_eq_false_iff.2 (.inr (decide_eq_false c))))
        · exact st_nodes (range_no (k := k) (by omega) (Bool.and_eq_false_iff.2 (.inl (isLink_unmarked ▸ c)))))
     | (rw [st_yes ⟨hok, hl1, hl2, hl3⟩ (all_done hg (by rw [List.length_range]; omega)) (all_done hn (by rw [List.length_range]; omega)) (all_done hv (by rw [List.length_range]; omega)), any_not, Bool.not_not, decide_eq_true (show countsOk s from by unfold countsOk; omega), Bool.and_true])
     | exact st_counts fun h => by unfold countsOk at h; omega
  refine wp_skip ?_
  refine xt ?_
  refine hK21 _ _ <| rl hF rfl fun a hF => ?_
  refine xt ?_
  refine ⟨k + 1, ⟨by omega, all_nxt hg (range_at (by omega)) (decide_eq_true c130.1.1), all_nxt hv (range_at (by omega)) (by rw [← isLink_unmarked, c130.2, decide_eq_true c130.1.2]; rfl)⟩, hS, (((((hF.nil.keep hF (t := 96) rfl).keep hF (t := 3) rfl).keep hF (t := 2) rfl).keep hF (t := 1) rfl).keepE hF (t := 97) rfl (wk (by omega))), by omega⟩
 refine wp_exit ?_
 refine xt ?_
 refine hK17 _ _ <| ws fun K25 hK25 => gb 2 1 hF hS rfl rfl rfl fun a hF => ?_
 refine wl hF rfl rfl rfl (r_makeFunc (by simp only [List.map_toArray, List.map_cons, List.map_nil]; rw [hF.ev rfl])) fun a hF => ?_
 refine ckr hF hS rfl (containsFuncT_c (p := fun t => !threadOk s.config t) (cap := #[.pointer (some ⟨g2, 0, none⟩)]) (hS.rd r2) (by kernel_rfl) (fun w_ cs x hx hB hk => by rw [app_1]; exact isState1_c hk (wthr x hx) hok (fun j u hu => cellB hB (hS.box_rd (i := 0) rfl j u hu)))) fun w20 a hS hF => ?_
 refine ge hK25 hF rfl fun a hF => ?_
 refine xr ?_
 refine ret1 rfl hF rfl ⟨congrArg Value.bool (Eq.symm ?_), hS.old⟩
 first
   | exact st_heads (range_no (by omega) c93)
   | exact st_shape fun h => by
       unfold shapeOk at h
       rcases c34 with ((c | c) | c) | c
       · exact c h.1
       · exact c h.2.1
       · exact c h.2.2.1
       · exact c h.2.2.2
   | (rcases c130 with (c | c) | c
      · exact st_gens (range_no (by omega) (decide_eq_false c))
      · exact st_nodes (range_no (k := k) (by omega) (Bool.and_eq_false_iff.2 (.inr (decide_eq_false c))))
      · exact st_nodes (range_no (k := k) (by omega) (Bool.and_eq_false_iff.2 (.inl (isLink_unmarked ▸ c)))))
   | (rw [st_yes ⟨hok, hl1, hl2, hl3⟩ (all_done hg (by rw [List.length_range]; omega)) (all_done hn (by rw [List.length_range]; omega)) (all_done hv (by rw [List.length_range]; omega)), any_not, Bool.not_not, decide_eq_true (show countsOk s from by unfold countsOk; omega), Bool.and_true])
   | exact st_counts fun h => by unfold countsOk at h; omega
set_option maxRecDepth 20000
theorem specIsState_c {W : World} {s : Sl.State} {cs : List Value} (hm : stateEK.K W s cs) (hw : s.wf) (hz : (s.size : Int) ≤ 1048576) : Calls Tryz.prog 11 #[.agg cs.toArray] W (Ret fun v w' => v = .bool (stateOk s) ∧ Below W.heap.size W w') := by
 refine cfr Tryz.func11 Tryz.ntmps11 fun a hF => ?_
 have hS := Sep.refl W
 obtain ⟨v0, v1, v2, rfl, r0, r1, r2⟩ := hm
 obtain ⟨A_a, q_a, rfl, hq_a, hn_a⟩ := r0.sl; unfold maxLen at hn_a
 obtain ⟨A_b, q_b, rfl, hq_b, hn_b⟩ := r1.sl; unfold maxLen at hn_b
 obtain ⟨A_c, q_c, rfl, hq_c, hn_c⟩ := r2.sl; unfold maxLen at hn_c
 obtain ⟨wcfg, wcells, wgens, wthr, wsteps, wchanges, wretries, wfaults⟩ := hw
 have hz1 := hz; unfold Sl.State.size at hz1
 refine ws fun K1 hK1 => wl_box (cs := [_, _, _, _, _, _, _, _, _, _, _, _, _]) hF hS rfl (hF.ev rfl) rfl fun g1 w1 a hS _ hF => ge hK1 hF rfl fun a hF => wp_seq_k fun K2 hK2 => wp_seq_k fun K3 hK3 => wp_region_calm (by kernel_rfl) (by kernel_rfl) <| qa 1 hF tk rfl fun a hF => ?_
 refine wq hF rfl rfl rfl (fun w_ hB_ => r_loadn ag30 (hF.ev rfl) ((hS.ext hB_).boxn (vs := [_, _, _, _, _, _]) (i := 0) (m := 6) rfl rfl) sz30) fun a hF => qk hF rfl (fun w_ hB_ => specIsConfig_c _) fun a hF => qa 2 hF tk rfl fun a hF => ?_
 apply wq_or (A := [_, _, _, _, _, _, _, _]) (pk := 20) hF (tc := 12) rfl
 ·
  intro hg12 a hF; try simp only [zb] at hg12
  refine qb 4 0 hF tk hS rfl rfl rfl fun a hF => wq_take hF rfl rfl rfl rfl <| wq hF rfl rfl rfl (fun w_ hB_ => r_loadn ag30 (hF.ev rfl) ((hS.ext hB_).boxn (vs := [_, _, _, _, _, _]) (i := 0) (m := 6) rfl rfl) sz30) fun a hF => qk hF rfl (fun w_ hB_ => specCellCount_c _) fun a hF => qa 2 hF tk rfl fun a hF => ?_
  exact wpQuiet_nil ((Fr.pre (A := [_, _, _, _, _, _, _, _]) hF rfl).keep hF (t := 20) rfl)
 ·
  intro hg12 a hF; try simp only [zb] at hg12
  refine qa 8 hF tk rfl fun a hF => ?_
  exact wpQuiet_nil ((Fr.pre (A := [_, _, _, _, _, _, _, _]) hF rfl).keep hF (t := 20) rfl)
 intro a hF
 refine qa 1 hF tk rfl fun a hF => ?_
 apply wq_or (A := [_, _, _, _, _, _, _, _]) (pk := 29) hF (tc := 21) rfl
 ·
  intro hg21 a hF; try simp only [zb] at hg21
  refine qb 8 0 hF tk hS rfl rfl rfl fun a hF => ?_
  exact wpQuiet_nil ((Fr.pre (A := [_, _, _, _, _, _, _, _]) hF rfl).keep hF (t := 29) rfl)
 ·
  intro hg21 a hF; try simp only [zb] at hg21
  refine qa 8 hF tk rfl fun a hF => ?_
  exact wpQuiet_nil ((Fr.pre (A := [_, _, _, _, _, _, _, _]) hF rfl).keep hF (t := 29) rfl)
 intro a hF
 refine qa 1 hF tk rfl fun a hF => ?_
 apply wq_or (A := [_, _, _, _, _, _, _, _]) (pk := 38) hF (tc := 30) rfl
 ·
  intro hg30 a hF; try simp only [zb] at hg30
  refine qb 8 0 hF tk hS rfl rfl rfl fun a hF => ?_
  exact wpQuiet_nil ((Fr.pre (A := [_, _, _, _, _, _, _, _]) hF rfl).keep hF (t := 38) rfl)
 ·
  intro hg30 a hF; try simp only [zb] at hg30
  refine qa 8 hF tk rfl fun a hF => ?_
  exact wpQuiet_nil ((Fr.pre (A := [_, _, _, _, _, _, _, _]) hF rfl).keep hF (t := 38) rfl)
 intro a hF
 refine wpQuiet_nil ?_; intro w5 hB_; have hS := hS.ext hB_
 refine hK3 _ _ <| cx 38 hF rfl (fun c38 hF => ?_) fun c38 hF => ?_
 ·
  refine rg hF rfl fun a hF => ?_
  refine xr ?_
  refine ret1 rfl hF rfl ⟨congrArg Value.bool (Eq.symm ?_), hS.old⟩
  first
    | exact st_gens (range_no (by omega) (decide_eq_false c52))
    | exact st_threads (all_no hx c68)
    | exact st_heads (range_no (k := k) (by omega) (isLink_zero.trans (Bool.and_eq_false_iff.2 (c92.imp_right (fun e => by rw [e]; rfl)))))
    | exact st_nodes (range_no (k := k) (by omega) (Bool.and_eq_false_iff.2 (c123.imp_right (fun e => decide_eq_false e))))
    | exact st_shape fun h => by
        unfold shapeOk at h
        rcases c38 with ((c | c) | c) | c
        · exact c h.1
        · exact c h.2.1
        · exact c h.2.2.1
        · exact c h.2.2.2
    | (rw [st_yes ⟨hok, hl1, hl2, hl3⟩ (all_done hg (by rw [List.length_range]; omega)) (all_done hn (by rw [List.length_range]; omega)) (all_done hv (by rw [List.length_range]; omega)), all_done ht (by omega), Bool.true_and, Bool.eq_iff_iff]
       simp only [Bool.and_eq_true, decide_eq_true_eq]
       unfold countsOk
       simp only [and_assoc])
 obtain ⟨⟨⟨hok, hl1⟩, hl2⟩, hl3⟩ := c38
 have hb := hok; unfold Config.ok at hb
 have hcc := cellCount_eq hok
 refine wp_skip <| hK2 _ _ <| wp_seq_k fun K5 hK5 => rg hF rfl fun a hF => wp_block ?_
 have hL_ := ((hF.nil.keep hF (t := 2) rfl).keep hF (t := 1) rfl)
 refine wp_loop_r (σ := Nat) (fun k L_ => (3, vi k) :: L_) (fun k => (k ≤ s.generations.length) ∧ (((List.range s.config.capacity.toNat).take k).all (fun k => decide (0 ≤ at0 s.generations (k : Int) ∧ at0 s.generations (k : Int) ≤ 9998)) = true)) (fun k => s.generations.length - k) 0 hS (hL_.keepE hF (t := 3) rfl rfl) ?_ ?_
 · exact ⟨Nat.zero_le _, rfl⟩
 rintro k a w6 ⟨hk, hg⟩ hS hF; try dsimp only at hF; try dsimp only at hS
 refine wp_seq_k fun K7 hK7 => rh 0 hF hS rfl rfl rfl fun a hF => cx 43 hF rfl (fun c43 hF => ?_) fun c43 hF => ?_
 ·
  refine wp_skip <| hK7 _ _ <| wp_seq_k fun K9 hK9 => wp_block <| ws fun K10 hK10 => gb 3 0 hF hS rfl rfl rfl fun a hF => ?_
  obtain ⟨g49, o49, m49, q49, hv49, hm49, hl49, hc49⟩ := Rd.atF (r1) (a := a) (X := .tmp 48) (hF.ev rfl) (by omega) (by omega)
  refine wl hF rfl rfl rfl (r_index sl24 ((hF.ev rfl).trans hv49) (hF.ev rfl) (by omega) (by first | omega | (simp at hm49; omega))) fun a hF => ?_
  refine wl hF rfl rfl rfl (r_load1 sc3 (hF.ev rfl) (cellB hS.old (hc49 0 _ rfl))) fun a hF => ckr hF hS rfl (l1In_c _ _ _) fun w7 a hS hF => ge hK10 hF rfl fun a hF => cx 52 hF rfl (fun c52 hF => ?_) fun c52 hF => ?_
  ·
   refine rg hF rfl fun a hF => ?_
   refine xr ?_
   refine ret1 rfl hF rfl ⟨congrArg Value.bool (Eq.symm ?_), hS.old⟩
   first
     | exact st_gens (range_no (by omega) (decide_eq_false c52))
     | exact st_threads (all_no hx c68)
     | exact st_heads (range_no (k := k) (by omega) (isLink_zero.trans (Bool.and_eq_false_iff.2 (c92.imp_right (fun e => by rw [e]; rfl)))))
     | exact st_nodes (range_no (k := k) (by omega) (Bool.and_eq_false_iff.2 (c123.imp_right (fun e => decide_eq_false e))))
     | exact st_shape fun h => by
         unfold shapeOk at h
         rcases c38 with ((c | c) | c) | c
         · exact c h.1
         · exact c h.2.1
         · exact c h.2.2.1
         · exact c h.2.2.2
     | (rw [st_yes ⟨hok, hl1, hl2, hl3⟩ (all_done hg (by rw [List.length_range]; omega)) (all_done hn (by rw [List.length_range]; omega)) (all_done hv (by rw [List.length_range]; omega)), all_done ht (by omega), Bool.true_and, Bool.eq_iff_iff]
        simp only [Bool.and_eq_true, decide_eq_true_eq]
        unfold countsOk
        simp only [and_assoc])
  refine wp_skip ?_
  refine xt ?_
  refine hK9 _ _ <| rl hF rfl fun a hF => ?_
  refine xt ?_
  refine ⟨k + 1, ⟨by omega, all_nxt hg (range_at (by omega)) (decide_eq_true c52)⟩, hS, (((hF.nil.keep hF (t := 2) rfl).keep hF (t := 1) rfl).keepE hF (t := 3) rfl (wk (by omega))), by omega⟩
 refine wp_exit ?_
 refine xt ?_
 refine hK5 _ _ <| wp_seq_k fun K12 hK12 => rg hF rfl fun a hF => wp_block ?_
 have hL_ := ((hF.nil.keep hF (t := 2) rfl).keep hF (t := 1) rfl)
 refine wp_loop_r (σ := Nat) (fun k L_ => (4, vi k) :: L_) (fun k => (k ≤ s.threads.length) ∧ ((s.threads.take k).all (threadOk s.config) = true)) (fun k => s.threads.length - k) 0 hS (hL_.keepE hF (t := 4) rfl rfl) ?_ ?_
 · exact ⟨Nat.zero_le _, rfl⟩
 rintro k a w8 ⟨hk, ht⟩ hS hF; try dsimp only at hF; try dsimp only at hS
 refine wp_seq_k fun K14 hK14 => rh 0 hF hS rfl rfl rfl fun a hF => cx 57 hF rfl (fun c57 hF => ?_) fun c57 hF => ?_
 ·
  have hlt : k < s.threads.length := by omega
  have hx := at0_nat hlt
  have hc1 := crow_le1 (c := Sl.Thread.size) hx
  refine wp_skip <| hK14 _ _ <| wp_seq_k fun K16 hK16 => wp_block <| wp_seq_k fun K17 hK17 => wp_region_calm (by kernel_rfl) (by kernel_rfl) <| qa 1 hF tk rfl fun a hF => ?_
  refine wq hF rfl rfl rfl (fun w_ hB_ => r_loadn ag30 (hF.ev rfl) ((hS.ext hB_).boxn (vs := [_, _, _, _, _, _]) (i := 0) (m := 6) rfl rfl) sz30) fun a hF => qb 3 0 hF tk hS rfl rfl rfl fun a hF => ?_
  obtain ⟨g65, o65, m65, q65, cs65, hv65, hm65, hl65, hk65, hz65, hc65⟩ := Rd.at (r2) (a := a) (X := .tmp 64) (hF.ev rfl) (by omega) (by omega)
  have hkk65 := hk65; obtain ⟨v65_0, v65_1, v65_2, v65_3, v65_4, rfl, r65_0, r65_1, r65_2, r65_3, r65_4⟩ := hk65
  refine wq hF rfl rfl rfl (fun w_ hB_ => r_index sl31 ((hF.ev rfl).trans hv65) (hF.ev rfl) (by omega) (by first | omega | (simp at hm65; omega))) fun a hF => ?_
  refine wq hF rfl rfl rfl (fun w_ hB_ => r_loadn ag68 (hF.ev rfl) (fun j_ u_ hu_ => cellB (hS.ext hB_).old (hc65 j_ u_ hu_)) sz68) fun a hF => qk hF rfl (fun w_ hB_ => l8Thread_c ((hS.ext hB_).k hkk65) (wthr _ (at0_mem (by omega) (by omega))) hok (by omega)) fun a hF => qa 1 hF tk rfl fun a hF => ?_
  refine wpQuiet_nil ?_; intro w9 hB_; have hS := hS.ext hB_
  refine hK17 _ _ <| cx 68 hF rfl (fun c68 hF => ?_) fun c68 hF => ?_
  ·
   refine rg hF rfl fun a hF => ?_
   refine xr ?_
   refine ret1 rfl hF rfl ⟨congrArg Value.bool (Eq.symm ?_), hS.old⟩
   first
     | exact st_gens (range_no (by omega) (decide_eq_false c52))
     | exact st_threads (all_no hx c68)
     | exact st_heads (range_no (k := k) (by omega) (isLink_zero.trans (Bool.and_eq_false_iff.2 (c92.imp_right (fun e => by rw [e]; rfl)))))
     | exact st_nodes (range_no (k := k) (by omega) (Bool.and_eq_false_iff.2 (c123.imp_right (fun e => decide_eq_false e))))
     | exact st_shape fun h => by
         unfold shapeOk at h
         rcases c38 with ((c | c) | c) | c
         · exact c h.1
         · exact c h.2.1
         · exact c h.2.2.1
         · exact c h.2.2.2
     | (rw [st_yes ⟨hok, hl1, hl2, hl3⟩ (all_done hg (by rw [List.length_range]; omega)) (all_done hn (by rw [List.length_range]; omega)) (all_done hv (by rw [List.length_range]; omega)), all_done ht (by omega), Bool.true_and, Bool.eq_iff_iff]
        simp only [Bool.and_eq_true, decide_eq_true_eq]
        unfold countsOk
        simp only [and_assoc])
  refine wp_skip ?_
  refine xt ?_
  refine hK16 _ _ <| rl hF rfl fun a hF => ?_
  refine xt ?_
  refine ⟨k + 1, ⟨by omega, all_nxt ht hx c68⟩, hS, (((hF.nil.keep hF (t := 2) rfl).keep hF (t := 1) rfl).keepE hF (t := 4) rfl (wk (by omega))), by omega⟩
 refine wp_exit ?_
 refine xt ?_
 refine hK12 _ _ <| wp_seq_k fun K19 hK19 => rg hF rfl fun a hF => wp_block ?_
 have hL_ := ((hF.nil.keep hF (t := 2) rfl).keep hF (t := 1) rfl)
 refine wp_loop_r (σ := Nat) (fun k L_ => (5, vi k) :: L_) (fun k => (k ≤ s.config.keys.toNat) ∧ (((List.range s.config.keys.toNat).take k).all (fun k => isLink s.config (at0 s.cells (headCell s.config (k : Int)))) = true)) (fun k => s.config.keys.toNat - k) 0 hS (hL_.keepE hF (t := 5) rfl rfl) ?_ ?_
 · exact ⟨Nat.zero_le _, rfl⟩
 rintro k a w10 ⟨hk, hn⟩ hS hF; try dsimp only at hF; try dsimp only at hS
 refine wp_seq_k fun K21 hK21 => rh 0 hF hS rfl rfl rfl fun a hF => cx 73 hF rfl (fun c73 hF => ?_) fun c73 hF => ?_
 ·
  have hd := headCell_eq hok (k := (k : Int)) (by omega) (by omega)
  have h1 : int64 (at0 s.cells (headCell s.config (k : Int))) := wcells _ (at0_mem (by omega) (by omega))
  refine wp_skip <| hK21 _ _ <| wp_seq_k fun K23 hK23 => wp_block <| wp_seq_k fun K24 hK24 => wp_region_calm (by kernel_rfl) (by kernel_rfl) <| qb 3 0 hF tk hS rfl rfl rfl fun a hF => ?_
  refine wq hF rfl rfl rfl (fun w_ hB_ => r_loadn ag30 (hF.ev rfl) ((hS.ext hB_).boxn (vs := [_, _, _, _, _, _]) (i := 0) (m := 6) rfl rfl) sz30) fun a hF => qa 1 hF tk rfl fun a hF => qk hF rfl (fun w_ hB_ => specHeadCell_c _ _) fun a hF => ?_
  obtain ⟨g82, o82, m82, q82, hv82, hm82, hl82, hc82⟩ := Rd.atF (r0) (a := a) (X := .tmp 81) (hF.ev rfl) (by omega) (by omega)
  refine wq hF rfl rfl rfl (fun w_ hB_ => r_index sl24 ((hF.ev rfl).trans hv82) (hF.ev rfl) (by omega) (by first | omega | (simp at hm82; omega))) fun a hF => ?_
  refine wq hF rfl rfl rfl (fun w_ hB_ => r_load1 sc3 (hF.ev rfl) (cellB (hS.ext hB_).old (hc82 0 _ rfl))) fun a hF => qa 1 hF tk rfl fun a hF => ?_
  refine wpQuiet_nil ?_; intro w11 hB_; have hS := hS.ext hB_
  refine hK24 _ _ <| ws fun K25 hK25 => ga 1 hF rfl fun a hF => wl hF rfl rfl rfl (r_loadn ag30 (hF.ev rfl) (hS.boxn (vs := [_, _, _, _, _, _]) (i := 0) (m := 6) rfl rfl) sz30) fun a hF => ga 1 hF rfl fun a hF => ckr hF hS rfl (l8Zero_c h1) fun w12 a hS hF => ga 2 hF rfl fun a hF => ?_
  apply wo 3 89 92 hF hS
  ·
   intro hg89 a hF
   refine ga 1 hF rfl fun a hF => ckr hF hS rfl (specIsMarked_c h1) fun w13 a hS hF => ?_
   exact je 3 hF hS rfl rfl rfl rfl
  intro a w14 hF hS
  refine wl_nil <| hK25 _ _ <| cx 92 hF rfl (fun c92 hF => ?_) fun c92 hF => ?_
  ·
   refine rg hF rfl fun a hF => ?_
   refine xr ?_
   refine ret1 rfl hF rfl ⟨congrArg Value.bool (Eq.symm ?_), hS.old⟩
   first
     | exact st_gens (range_no (by omega) (decide_eq_false c52))
     | exact st_threads (all_no hx c68)
     | exact st_heads (range_no (k := k) (by omega) (isLink_zero.trans (Bool.and_eq_false_iff.2 (c92.imp_right (fun e => by rw [e]; rfl)))))
     | exact st_nodes (range_no (k := k) (by omega) (Bool.and_eq_false_iff.2 (c123.imp_right (fun e => decide_eq_false e))))
     | exact st_shape fun h => by
         unfold shapeOk at h
         rcases c38 with ((c | c) | c) | c
         · exact c h.1
         · exact c h.2.1
         · exact c h.2.2.1
         · exact c h.2.2.2
     | (rw [st_yes ⟨hok, hl1, hl2, hl3⟩ (all_done hg (by rw [List.length_range]; omega)) (all_done hn (by rw [List.length_range]; omega)) (all_done hv (by rw [List.length_range]; omega)), all_done ht (by omega), Bool.true_and, Bool.eq_iff_iff]
        simp only [Bool.and_eq_true, decide_eq_true_eq]
        unfold countsOk
        simp only [and_assoc])
  refine wp_skip ?_
  refine xt ?_
  refine hK23 _ _ <| rl hF rfl fun a hF => ?_
  refine xt ?_
  refine ⟨k + 1, ⟨by omega, all_nxt hn (range_at (by omega)) (by rw [isLink_zero, c92.1, c92.2]; rfl)⟩, hS, (((hF.nil.keep hF (t := 2) rfl).keep hF (t := 1) rfl).keepE hF (t := 5) rfl (wk (by omega))), by omega⟩
 refine wp_exit ?_
 refine xt ?_
 refine hK19 _ _ <| wp_seq_k fun K27 hK27 => rg hF rfl fun a hF => wp_block ?_
 have hL_ := ((hF.nil.keep hF (t := 2) rfl).keep hF (t := 1) rfl)
 refine wp_loop_r (σ := Nat) (fun k L_ => (7, vi k) :: L_) (fun k => (k ≤ s.config.capacity.toNat) ∧ (((List.range s.config.capacity.toNat).take k).all (fun k => zeroOk s.config (at0 s.cells (nodeCell s.config (k : Int) 2)) && decide (0 ≤ at0 s.cells (nodeCell s.config (k : Int) 0) ∧ at0 s.cells (nodeCell s.config (k : Int) 0) ≤ 99)) = true)) (fun k => s.config.capacity.toNat - k) 0 hS (hL_.keepE hF (t := 7) rfl rfl) ?_ ?_
 · exact ⟨Nat.zero_le _, rfl⟩
 rintro k a w15 ⟨hk, hv⟩ hS hF; try dsimp only at hF; try dsimp only at hS
 refine wp_seq_k fun K29 hK29 => rh 0 hF hS rfl rfl rfl fun a hF => cx 97 hF rfl (fun c97 hF => ?_) fun c97 hF => ?_
 ·
  have hn0 := nodeCell_eq hok (i := (k : Int)) (f := 0) (by omega) (by omega) (by omega) (by omega)
  have hn2 := nodeCell_eq hok (i := (k : Int)) (f := 2) (by omega) (by omega) (by omega) (by omega)
  have h1 : int64 (at0 s.cells (nodeCell s.config (k : Int) 2)) := wcells _ (at0_mem (by omega) (by omega))
  refine wp_skip <| hK29 _ _ <| wp_seq_k fun K31 hK31 => wp_block <| wp_seq_k fun K32 hK32 => wp_region_calm (by kernel_rfl) (by kernel_rfl) <| qa 1 hF tk rfl fun a hF => ?_
  refine wq hF rfl rfl rfl (fun w_ hB_ => r_loadn ag30 (hF.ev rfl) ((hS.ext hB_).boxn (vs := [_, _, _, _, _, _]) (i := 0) (m := 6) rfl rfl) sz30) fun a hF => qb 3 0 hF tk hS rfl rfl rfl fun a hF => wq hF rfl rfl rfl (fun w_ hB_ => r_loadn ag30 (hF.ev rfl) ((hS.ext hB_).boxn (vs := [_, _, _, _, _, _]) (i := 0) (m := 6) rfl rfl) sz30) fun a hF => qa 1 hF tk rfl fun a hF => qk hF rfl (fun w_ hB_ => specNodeCell_c _ _ _) fun a hF => ?_
  obtain ⟨g108, o108, m108, q108, hv108, hm108, hl108, hc108⟩ := Rd.atF (r0) (a := a) (X := .tmp 107) (hF.ev rfl) (by omega) (by omega)
  refine wq hF rfl rfl rfl (fun w_ hB_ => r_index sl24 ((hF.ev rfl).trans hv108) (hF.ev rfl) (by omega) (by first | omega | (simp at hm108; omega))) fun a hF => ?_
  refine wq hF rfl rfl rfl (fun w_ hB_ => r_load1 sc3 (hF.ev rfl) (cellB (hS.ext hB_).old (hc108 0 _ rfl))) fun a hF => qk hF rfl (fun w_ hB_ => l8Zero_c h1) fun a hF => qa 2 hF tk rfl fun a hF => ?_
  apply wq_or (A := [_, _, _, _, _, _, _, _, _, _, _]) (pk := 123) hF (tc := 112) rfl
  ·
   intro hg112 a hF; try simp only [zb] at hg112
   refine qb 3 0 hF tk hS rfl rfl rfl fun a hF => wq_take hF rfl rfl rfl rfl <| wq hF rfl rfl rfl (fun w_ hB_ => r_loadn ag30 (hF.ev rfl) ((hS.ext hB_).boxn (vs := [_, _, _, _, _, _]) (i := 0) (m := 6) rfl rfl) sz30) fun a hF => qa 1 hF tk rfl fun a hF => qk hF rfl (fun w_ hB_ => specNodeCell_c _ _ _) fun a hF => wq_take hF rfl rfl rfl rfl ?_
   obtain ⟨g119, o119, m119, q119, hv119, hm119, hl119, hc119⟩ := Rd.atF (r0) (a := a) (X := .tmp 118) (hF.ev rfl) (by omega) (by omega)
   refine wq hF rfl rfl rfl (fun w_ hB_ => r_index sl24 ((hF.ev rfl).trans hv119) (hF.ev rfl) (by omega) (by first | omega | (simp at hm119; omega))) fun a hF => ?_
   refine wq_take hF rfl rfl rfl rfl <| wq hF rfl rfl rfl (fun w_ hB_ => r_load1 sc3 (hF.ev rfl) (cellB (hS.ext hB_).old (hc119 0 _ rfl))) fun a hF => qk hF rfl (fun w_ hB_ => l1In_c _ _ _) fun a hF => qa 2 hF tk rfl fun a hF => ?_
   exact wpQuiet_nil ((Fr.pre (A := [_, _, _, _, _, _, _, _, _, _, _]) hF rfl).keep hF (t := 123) rfl)
  ·
   intro hg112 a hF; try simp only [zb] at hg112
   refine qa 11 hF tk rfl fun a hF => ?_
   exact wpQuiet_nil ((Fr.pre (A := [_, _, _, _, _, _, _, _, _, _, _]) hF rfl).keep hF (t := 123) rfl)
  intro a hF
  refine wpQuiet_nil ?_; intro w17 hB_; have hS := hS.ext hB_
  refine hK32 _ _ <| cx 123 hF rfl (fun c123 hF => ?_) fun c123 hF => ?_
  ·
   refine rg hF rfl fun a hF => ?_
   refine xr ?_
   refine ret1 rfl hF rfl ⟨congrArg Value.bool (Eq.symm ?_), hS.old⟩
   first
     | exact st_gens (range_no (by omega) (decide_eq_false c52))
     | exact st_threads (all_no hx c68)
     | exact st_heads (range_no (k := k) (by omega) (isLink_zero.trans (Bool.and_eq_false_iff.2 (c92.imp_right (fun e => by rw [e]; rfl)))))
     | exact st_nodes (range_no (k := k) (by omega) (Bool.and_eq_false_iff.2 (c123.imp_right (fun e => decide_eq_false e))))
     | exact st_shape fun h => by
         unfold shapeOk at h
         rcases c38 with ((c | c) | c) | c
         · exact c h.1
         · exact c h.2.1
         · exact c h.2.2.1
         · exact c h.2.2.2
     | (rw [st_yes ⟨hok, hl1, hl2, hl3⟩ (all_done hg (by rw [List.length_range]; omega)) (all_done hn (by rw [List.length_range]; omega)) (all_done hv (by rw [List.length_range]; omega)), all_done ht (by omega), Bool.true_and, Bool.eq_iff_iff]
        simp only [Bool.and_eq_true, decide_eq_true_eq]
        unfold countsOk
        simp only [and_assoc])
  refine wp_skip ?_
  refine xt ?_
  refine hK31 _ _ <| rl hF rfl fun a hF => ?_
  refine xt ?_
  refine ⟨k + 1, ⟨by omega, all_nxt hv (range_at (by omega)) (by rw [c123.1, decide_eq_true c123.2]; rfl)⟩, hS, (((hF.nil.keep hF (t := 2) rfl).keep hF (t := 1) rfl).keepE hF (t := 7) rfl (wk (by omega))), by omega⟩
 refine wp_exit ?_
 refine xt ?_
 refine hK27 _ _ <| wp_seq_k fun K34 hK34 => wp_region_calm (by kernel_rfl) (by kernel_rfl) <| qb 2 0 hF tk hS rfl rfl rfl fun a hF => ?_
 obtain ⟨g126, o126, m126, q126, hv126, hm126, hl126, hc126⟩ := Rd.atF (r0) (a := a) (X := .const (.int .i64 0)) ec (by omega) (by omega)
 refine wq hF rfl rfl rfl (fun w_ hB_ => r_index sl24 ((hF.ev rfl).trans hv126) ec (by omega) (by first | omega | (simp at hm126; omega))) fun a hF => ?_
 refine wq hF rfl rfl rfl (fun w_ hB_ => r_load1 sc3 (hF.ev rfl) (cellB (hS.ext hB_).old (hc126 0 _ rfl))) fun a hF => qb 3 0 hF tk hS rfl rfl rfl fun a hF => qk hF rfl (fun w_ hB_ => l1In_c _ _ _) fun a hF => qa 1 hF tk rfl fun a hF => ?_
 apply wq_and (A := [_, _, _, _, _, _, _, _, _]) (pk := 141) hF (tc := 132) rfl
 ·
  intro hg132 a hF; try simp only [zb] at hg132
  refine qb 2 0 hF tk hS rfl rfl rfl fun a hF => wq_take hF rfl rfl rfl rfl ?_
  obtain ⟨g135, o135, m135, q135, hv135, hm135, hl135, hc135⟩ := Rd.atF (r0) (a := a) (X := .const (.int .i64 1)) ec (by omega) (by omega)
  refine wq hF rfl rfl rfl (fun w_ hB_ => r_index sl24 ((hF.ev rfl).trans hv135) ec (by omega) (by first | omega | (simp at hm135; omega))) fun a hF => ?_
  refine wq_take hF rfl rfl rfl rfl <| wq hF rfl rfl rfl (fun w_ hB_ => r_load1 sc3 (hF.ev rfl) (cellB (hS.ext hB_).old (hc135 0 _ rfl))) fun a hF => qb 3 0 hF tk hS rfl rfl rfl fun a hF => qk hF rfl (fun w_ hB_ => l1In_c _ _ _) fun a hF => qa 1 hF tk rfl fun a hF => ?_
  exact wpQuiet_nil ((Fr.pre (A := [_, _, _, _, _, _, _, _, _]) hF rfl).keep hF (t := 141) rfl)
 ·
  intro hg132 a hF; try simp only [zb] at hg132
  refine qa 9 hF tk rfl fun a hF => ?_
  exact wpQuiet_nil ((Fr.pre (A := [_, _, _, _, _, _, _, _, _]) hF rfl).keep hF (t := 141) rfl)
 intro a hF
 refine qa 1 hF tk rfl fun a hF => ?_
 apply wq_and (A := [_, _, _, _]) (pk := 146) hF (tc := 142) rfl
 ·
  intro hg142 a hF; try simp only [zb] at hg142
  refine qb 2 0 hF tk hS rfl rfl rfl fun a hF => qk hF rfl (fun w_ hB_ => l1In_c _ _ _) fun a hF => qa 1 hF tk rfl fun a hF => ?_
  exact wpQuiet_nil ((Fr.pre (A := [_, _, _, _]) hF rfl).keep hF (t := 146) rfl)
 ·
  intro hg142 a hF; try simp only [zb] at hg142
  refine qa 4 hF tk rfl fun a hF => ?_
  exact wpQuiet_nil ((Fr.pre (A := [_, _, _, _]) hF rfl).keep hF (t := 146) rfl)
 intro a hF
 refine qa 1 hF tk rfl fun a hF => ?_
 apply wq_and (A := [_, _, _, _]) (pk := 151) hF (tc := 147) rfl
 ·
  intro hg147 a hF; try simp only [zb] at hg147
  refine qb 2 0 hF tk hS rfl rfl rfl fun a hF => qk hF rfl (fun w_ hB_ => l1In_c _ _ _) fun a hF => qa 1 hF tk rfl fun a hF => ?_
  exact wpQuiet_nil ((Fr.pre (A := [_, _, _, _]) hF rfl).keep hF (t := 151) rfl)
 ·
  intro hg147 a hF; try simp only [zb] at hg147
  refine qa 4 hF tk rfl fun a hF => ?_
  exact wpQuiet_nil ((Fr.pre (A := [_, _, _, _]) hF rfl).keep hF (t := 151) rfl)
 intro a hF
 refine qa 1 hF tk rfl fun a hF => ?_
 apply wq_and (A := [_, _, _, _]) (pk := 156) hF (tc := 152) rfl
 ·
  intro hg152 a hF; try simp only [zb] at hg152
  refine qb 2 0 hF tk hS rfl rfl rfl fun a hF => qk hF rfl (fun w_ hB_ => l1In_c _ _ _) fun a hF => qa 1 hF tk rfl fun a hF => ?_
  exact wpQuiet_nil ((Fr.pre (A := [_, _, _, _]) hF rfl).keep hF (t := 156) rfl)
 ·
  intro hg152 a hF; try simp only [zb] at hg152
  refine qa 4 hF tk rfl fun a hF => ?_
  exact wpQuiet_nil ((Fr.pre (A := [_, _, _, _]) hF rfl).keep hF (t := 156) rfl)
 intro a hF
 refine qa 1 hF tk rfl fun a hF => ?_
 apply wq_and (A := [_, _, _, _]) (pk := 161) hF (tc := 157) rfl
 ·
  intro hg157 a hF; try simp only [zb] at hg157
  refine qb 2 0 hF tk hS rfl rfl rfl fun a hF => qk hF rfl (fun w_ hB_ => l1In_c _ _ _) fun a hF => qa 1 hF tk rfl fun a hF => ?_
  exact wpQuiet_nil ((Fr.pre (A := [_, _, _, _]) hF rfl).keep hF (t := 161) rfl)
 ·
  intro hg157 a hF; try simp only [zb] at hg157
  refine qa 4 hF tk rfl fun a hF => ?_
  exact wpQuiet_nil ((Fr.pre (A := [_, _, _, _]) hF rfl).keep hF (t := 161) rfl)
 intro a hF
 refine qa 1 hF tk rfl fun a hF => ?_
 refine wpQuiet_nil ?_; intro w23 hB_; have hS := hS.ext hB_
 refine hK34 _ _ ?_
 refine xr ?_
 refine ret1 rfl hF rfl ⟨congrArg Value.bool (Eq.symm ?_), hS.old⟩
 first
   | exact st_gens (range_no (by omega) (decide_eq_false c52))
   | exact st_threads (all_no hx c68)
   | exact st_heads (range_no (k := k) (by omega) (isLink_zero.trans (Bool.and_eq_false_iff.2 (c92.imp_right (fun e => by rw [e]; rfl)))))
   | exact st_nodes (range_no (k := k) (by omega) (Bool.and_eq_false_iff.2 (c123.imp_right (fun e => decide_eq_false e))))
   | exact st_shape fun h => by
       unfold shapeOk at h
       rcases c38 with ((c | c) | c) | c
       · exact c h.1
       · exact c h.2.1
       · exact c h.2.2.1
       · exact c h.2.2.2
   | (rw [st_yes ⟨hok, hl1, hl2, hl3⟩ (all_done hg (by rw [List.length_range]; omega)) (all_done hn (by rw [List.length_range]; omega)) (all_done hv (by rw [List.length_range]; omega)), all_done ht (by omega), Bool.true_and, Bool.eq_iff_iff]
      simp only [Bool.and_eq_true, decide_eq_true_eq]
      unfold countsOk
      simp only [and_assoc])
set_option maxRecDepth 20000
section
variable {s : State} {k : Int}
theorem stateOk_shape (h : stateOk s = true) : shapeOk s := by
 unfold stateOk at h; simp only [Bool.and_eq_true, decide_eq_true_eq] at h; exact h.1.1.1.1.1
def bornOf (s : State) : Int := if stateOk s = true then at0 s.cells 1 else 0
def quietB (s : State) : Bool := stateOk s && s.threads.all fun t => decide (t.pc = 0)
end
theorem specBorn_c {W : World} {s : Sl.State} {cs : List Value} (hm : stateEK.K W s cs) (hw : s.wf) (hz : (s.size : Int) ≤ 1048576) : Calls Tryz.prog 13 #[.agg cs.toArray] W (Ret fun v w' => v = vi (bornOf s) ∧ Below W.heap.size W w') := by
 refine cfr Tryz.func13 Tryz.ntmps13 fun a hF => ?_
 have hS := Sep.refl W
 obtain ⟨v0, v1, v2, rfl, r0, r1, r2⟩ := hm
 have hm : stateEK.K W s (s.encv v0 v1 v2) := ⟨_, _, _, rfl, r0, r1, r2⟩
 obtain ⟨A_a, q_a, rfl, hq_a, hn_a⟩ := r0.sl; unfold maxLen at hn_a
 obtain ⟨A_b, q_b, rfl, hq_b, hn_b⟩ := r1.sl; unfold maxLen at hn_b
 obtain ⟨A_c, q_c, rfl, hq_c, hn_c⟩ := r2.sl; unfold maxLen at hn_c
 have hwl : IntKind.i64.wrap ((s.threads.length : Int) - 1) = s.threads.length - 1 := w64_id (by omega) (by omega)
 refine ws fun K1 hK1 => wl_box (cs := [_, _, _, _, _, _, _, _, _, _, _, _, _]) hF hS rfl (hF.ev rfl) rfl fun g1 w1 a hS _ hF => ge hK1 hF rfl fun a hF => wp_seq_k fun K2 hK2 => ws fun K3 hK3 => gb 1 0 hF hS rfl rfl rfl fun a hF => ckr hF hS rfl (specIsState_c (hS.k hm) hw (by omega)) fun w2 a hS hF => ?_
 refine ge hK3 hF rfl fun a hF => cx 5 hF rfl (fun c5 hF => ?_) fun c5 hF => ?_
 ·
  refine rg hF rfl fun a hF => ?_
  refine xr ?_
  refine ret1 rfl hF rfl ⟨congrArg vi (Eq.symm ?_), hS.old⟩
  first | exact if_pos c5 | exact if_neg (by rw [c5]; decide)
 obtain ⟨hok, hl1, hl2, hl3⟩ := stateOk_shape (c5)
 have hb := hok; unfold Config.ok at hb
 have hcc := cellCount_eq hok
 refine wp_skip <| hK2 _ _ <| wp_seq_k fun K5 hK5 => wp_region_calm (by kernel_rfl) (by kernel_rfl) <| qb 2 0 hF tk hS rfl rfl rfl fun a hF => wq_call hF rfl rfl rfl (fun w_ hB_ => r_call0 en36 ) (fun w_ hB_ => specArenaCell_c) fun a hF => ?_
 obtain ⟨g9, o9, m9, q9, hv9, hm9, hl9, hc9⟩ := Rd.atF (r0) (a := a) (X := .tmp 8) (hF.ev rfl) (by omega) (by omega)
 refine wq hF rfl rfl rfl (fun w_ hB_ => r_index sl24 ((hF.ev rfl).trans hv9) (hF.ev rfl) (by omega) (by first | omega | (simp at hm9; omega))) fun a hF => ?_
 refine wq hF rfl rfl rfl (fun w_ hB_ => r_load1 sc3 (hF.ev rfl) (cellB (hS.ext hB_).old (hc9 0 _ rfl))) fun a hF => qa 1 hF tk rfl fun a hF => ?_
 refine wpQuiet_nil ?_; intro w3 hB_; have hS := hS.ext hB_
 refine hK5 _ _ ?_
 refine xr ?_
 refine ret1 rfl hF rfl ⟨congrArg vi (Eq.symm ?_), hS.old⟩
 first | exact if_pos c5 | exact if_neg (by rw [c5]; decide)
theorem implBorn_c {W : World} {s : Sl.State} {cs : List Value} (hm : stateEK.K W s cs) (hw : s.wf) (hz : (s.size : Int) ≤ 1048576) : Calls Tryz.prog 22 #[.agg cs.toArray] W (Ret fun v w' => v = vi (bornOf s) ∧ Below W.heap.size W w') := by
 refine cfr Tryz.func22 Tryz.ntmps22 fun a hF => ?_
 have hS := Sep.refl W
 obtain ⟨v0, v1, v2, rfl, r0, r1, r2⟩ := hm
 have hm : stateEK.K W s (s.encv v0 v1 v2) := ⟨_, _, _, rfl, r0, r1, r2⟩
 obtain ⟨A_a, q_a, rfl, hq_a, hn_a⟩ := r0.sl; unfold maxLen at hn_a
 obtain ⟨A_b, q_b, rfl, hq_b, hn_b⟩ := r1.sl; unfold maxLen at hn_b
 obtain ⟨A_c, q_c, rfl, hq_c, hn_c⟩ := r2.sl; unfold maxLen at hn_c
 have hwl : IntKind.i64.wrap ((s.threads.length : Int) - 1) = s.threads.length - 1 := w64_id (by omega) (by omega)
 refine ws fun K1 hK1 => wl_box (cs := [_, _, _, _, _, _, _, _, _, _, _, _, _]) hF hS rfl (hF.ev rfl) rfl fun g1 w1 a hS _ hF => ge hK1 hF rfl fun a hF => wp_seq_k fun K2 hK2 => ws fun K3 hK3 => gb 1 0 hF hS rfl rfl rfl fun a hF => ckr hF hS rfl (implIsState_c (hS.k hm) hw (by omega)) fun w2 a hS hF => ?_
 refine ge hK3 hF rfl fun a hF => cx 5 hF rfl (fun c5 hF => ?_) fun c5 hF => ?_
 ·
  refine rg hF rfl fun a hF => ?_
  refine xr ?_
  refine ret1 rfl hF rfl ⟨congrArg vi (Eq.symm ?_), hS.old⟩
  first | exact if_pos c5 | exact if_neg (by rw [c5]; decide)
 obtain ⟨hok, hl1, hl2, hl3⟩ := stateOk_shape (c5)
 have hb := hok; unfold Config.ok at hb
 have hcc := cellCount_eq hok
 refine wp_skip <| hK2 _ _ <| wp_seq_k fun K5 hK5 => wp_region_calm (by kernel_rfl) (by kernel_rfl) <| qb 2 0 hF tk hS rfl rfl rfl fun a hF => wq_call hF rfl rfl rfl (fun w_ hB_ => r_call0 en42 ) (fun w_ hB_ => implArenaCell_c) fun a hF => ?_
 obtain ⟨g9, o9, m9, q9, hv9, hm9, hl9, hc9⟩ := Rd.atF (r0) (a := a) (X := .tmp 8) (hF.ev rfl) (by omega) (by omega)
 refine wq hF rfl rfl rfl (fun w_ hB_ => r_index sl24 ((hF.ev rfl).trans hv9) (hF.ev rfl) (by omega) (by first | omega | (simp at hm9; omega))) fun a hF => ?_
 refine wq hF rfl rfl rfl (fun w_ hB_ => r_load1 sc3 (hF.ev rfl) (cellB (hS.ext hB_).old (hc9 0 _ rfl))) fun a hF => qa 1 hF tk rfl fun a hF => ?_
 refine wpQuiet_nil ?_; intro w3 hB_; have hS := hS.ext hB_
 refine hK5 _ _ ?_
 refine xr ?_
 refine ret1 rfl hF rfl ⟨congrArg vi (Eq.symm ?_), hS.old⟩
 first | exact if_pos c5 | exact if_neg (by rw [c5]; decide)
end Go.Proofs.YtbgacfdnmbhloaaGreatDoor.Wk
