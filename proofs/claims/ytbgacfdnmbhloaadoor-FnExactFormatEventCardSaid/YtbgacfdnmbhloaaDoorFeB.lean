/- FnExactFormatEvent, for all events: the program's FormatEvent returns what the reference's returns, and the argument stays as it was; the table of powers of ten that strconv reads is tied to the program's text. No condition. -/
import Derived.Test.YtbgacfdnmbhloaaDoorFeA
import Derived.Test.YtbgacfdnmbhloaaDoorChecked
import Derived.Test.YtbgacfdnmbhloaaDoorProg
import Derived.Test.YtbgacfdnmbhloaaDoorRows
set_option maxHeartbeats 4000000
set_option maxRecDepth 20000
namespace Go.Proofs.YtbgacfdnmbhloaaDoor.Wk
open Go Go.RowKit Sl
set_option linter.unusedVariables false
set_option linter.unusedSimpArgs false
set_option maxRecDepth 20000
theorem law_FnExactFormatEvent {W : World} {x : Sl.Event} (hT : Lib.TabIs Tryd.prog W "internal/strconv.uint64pow10" .u64 Lib.pow10Tab) (hx : x.wf) : Calls Tryd.prog 3 #[.agg x.enc.toArray] W (Ret fun v w' => v = .bool true ∧ Below W.heap.size W w') := by
 refine cfr Tryd.func3 Tryd.ntmps3 fun a hF => ?_
 have hS := Sep.refl W
 refine ws fun K1 hK1 => wl_box (cs := [_, _, _, _, _, _, _, _]) hF hS rfl (hF.ev rfl) rfl fun g1 w1 a hS _ hF => ge hK1 hF rfl fun a hF => ws fun K2 hK2 => gb 1 0 hF hS rfl rfl rfl fun a hF => ckr hF hS rfl (toEvent_c _) fun w2 a hS hF => ckr hF hS rfl (specFmtEv_c (e := x) hx) fun w3 a hS hF => ?_
 refine ge hK2 hF rfl fun a hF => ws fun K3 hK3 => gb 1 0 hF hS rfl rfl rfl fun a hF => ckr hF hS rfl (toEvent_c _) fun w4 a hS hF => ckr hF hS rfl (implFmtEv_c (e := x) (tab_ext hT hS.old) hx) fun w5 a hS hF => ge hK3 hF rfl fun a hF => wp_seq_k fun K4 hK4 => ?_
 refine ws fun K5 hK5 => ga 2 hF rfl fun a hF => wl hF rfl rfl rfl (r_sneq (hF.ev rfl) (hF.ev rfl)) fun a hF => wl_nil <| hK5 _ _ <| cx 13 hF rfl (fun c13 hF => ?_) fun c13 hF => ?_
 ·
  exfalso; simp at c13
 refine wp_skip <| hK4 _ _ <| rg hF rfl fun a hF => ?_
 refine xr ?_
 exact ret1 rfl hF rfl ⟨rfl, hS.old⟩
end Go.Proofs.YtbgacfdnmbhloaaDoor.Wk
namespace Go.Proofs.YtbgacfdnmbhloaaDoor.Sl
open Go
section
variable {P : Program} {h s : List Char} {X : List (List Char)}
/-- a row of signs, by their numbers -/
def ch (l : List Nat) : List Char := l.map Char.ofNat
/-- the blank -/
abbrev sp : Char := Char.ofNat 32
theorem words_sp : ∀ (w r : List Char), Sl.sp ∉ w → wordsSigns (w ++ Sl.sp :: r) = w :: wordsSigns r
  | [], r, _ => rfl
  | c :: w, r, h => by
    have hc : c ≠ Sl.sp := fun e => h (e ▸ List.mem_cons_self)
    have ih := words_sp w r (fun e => h (List.mem_cons_of_mem _ e))
    rw [List.cons_append, wordsSigns.eq_3 _ _ (fun e => hc e), ih]
theorem strip_cut : stripLifts liftWords ("cut".toList :: X) = ([], "cut".toList :: X) := by kernel_rfl
theorem made_of (e : behindMainWord (wordsSigns P.initOrder.toList) = "cut".toList :: X) : P.make = some .cut := by
 unfold Program.make; rw [e]; rfl
theorem final_of (e : behindMainWord (wordsSigns P.initOrder.toList) = "cut".toList :: X) : P.liftsFinal = false := by
 unfold Program.liftsFinal Program.headLifts; rw [e]; dsimp only; rw [strip_cut]; rfl
theorem enter_of (e : behindMainWord (wordsSigns P.initOrder.toList) = "cut".toList :: X) (h1 : P.laysLater = false) (h2 : P.bearsReflect = false) (h3 : P.doorFits [] = true) : P.mayEnter = true := by
 unfold Program.mayEnter; rw [e]; dsimp only; rw [strip_cut, h1, h2, h3]; rfl
end
end Go.Proofs.YtbgacfdnmbhloaaDoor.Sl

namespace Go.Proofs.YtbgacfdnmbhloaaDoor
open Go Go.RowKit Sl Wk
set_option linter.unusedVariables false
set_option linter.unusedSimpArgs false
set_option maxRecDepth 20000
theorem op3 : Opens Tryd.prog 3 1 (fun _ n cs => cs = [vi n]) int64 := opens_int (by kernel_rfl) (by kernel_rfl)
theorem fd23_0 : fldB Tryd.prog 23 0 = some (3, 0) := by kernel_rfl
theorem fd23_1 : fldB Tryd.prog 23 1 = some (3, 1) := by kernel_rfl
theorem fd23_2 : fldB Tryd.prog 23 2 = some (3, 2) := by kernel_rfl
theorem op23 : Opens Tryd.prog 23 3 (fun _ x cs => cs = Op.enc x) Op.wf := by
 refine ⟨by kernel_rfl, fun H enc W sp fuel cs y h => ?_⟩
 have hl : cs.length = 3 := (trod_len fd23_0 h).trans (by kernel_rfl)
 have e3 : cs.drop 3 = [] := List.drop_eq_nil_of_le (by omega)
 obtain ⟨x0, k0, w0⟩ := Opens.field op3 fd23_0 h
 obtain ⟨x1, k1, w1⟩ := Opens.field op3 fd23_1 h
 obtain ⟨x2, k2, w2⟩ := Opens.field op3 fd23_2 h
 have e2 : cs.drop 2 = [vi x2] ++ [] := by rw [drop_split cs 2 1, e3]; exact congrArg (· ++ _) k2
 have e1 : cs.drop 1 = [vi x1] ++ ([vi x2] ++ []) := by rw [drop_split cs 1 1, e2]; exact congrArg (· ++ _) k1
 have e0 : cs.drop 0 = [vi x0] ++ ([vi x1] ++ ([vi x2] ++ [])) := by rw [drop_split cs 0 1, e1]; exact congrArg (· ++ _) k0
 exact ⟨⟨x0, x1, x2⟩, (List.drop_zero (l := cs)).symm.trans e0, hl, w0, w1, w2⟩
theorem fd25_0 : fldB Tryd.prog 25 0 = some (3, 0) := by kernel_rfl
theorem fd25_1 : fldB Tryd.prog 25 1 = some (3, 1) := by kernel_rfl
theorem op25 : Opens Tryd.prog 25 2 (fun _ x cs => cs = Result.enc x) Result.wf := by
 refine ⟨by kernel_rfl, fun H enc W sp fuel cs y h => ?_⟩
 have hl : cs.length = 2 := (trod_len fd25_0 h).trans (by kernel_rfl)
 have e2 : cs.drop 2 = [] := List.drop_eq_nil_of_le (by omega)
 obtain ⟨x0, k0, w0⟩ := Opens.field op3 fd25_0 h
 obtain ⟨x1, k1, w1⟩ := Opens.field op3 fd25_1 h
 have e1 : cs.drop 1 = [vi x1] ++ [] := by rw [drop_split cs 1 1, e2]; exact congrArg (· ++ _) k1
 have e0 : cs.drop 0 = [vi x0] ++ ([vi x1] ++ []) := by rw [drop_split cs 0 1, e1]; exact congrArg (· ++ _) k0
 exact ⟨⟨x0, x1⟩, (List.drop_zero (l := cs)).symm.trans e0, hl, w0, w1⟩
theorem fd27_0 : fldB Tryd.prog 27 0 = some (3, 0) := by kernel_rfl
theorem fd27_1 : fldB Tryd.prog 27 1 = some (23, 1) := by kernel_rfl
theorem fd27_2 : fldB Tryd.prog 27 2 = some (25, 4) := by kernel_rfl
theorem fd27_3 : fldB Tryd.prog 27 3 = some (3, 6) := by kernel_rfl
theorem fd27_4 : fldB Tryd.prog 27 4 = some (3, 7) := by kernel_rfl
theorem op27 : Opens Tryd.prog 27 8 (fun _ x cs => cs = Event.enc x) Event.wf := by
 refine ⟨by kernel_rfl, fun H enc W sp fuel cs y h => ?_⟩
 have hl : cs.length = 8 := (trod_len fd27_0 h).trans (by kernel_rfl)
 have e8 : cs.drop 8 = [] := List.drop_eq_nil_of_le (by omega)
 obtain ⟨x0, k0, w0⟩ := Opens.field op3 fd27_0 h
 obtain ⟨x1, k1, w1⟩ := Opens.field op23 fd27_1 h
 obtain ⟨x2, k2, w2⟩ := Opens.field op25 fd27_2 h
 obtain ⟨x3, k3, w3⟩ := Opens.field op3 fd27_3 h
 obtain ⟨x4, k4, w4⟩ := Opens.field op3 fd27_4 h
 have e7 : cs.drop 7 = [vi x4] ++ [] := by rw [drop_split cs 7 1, e8]; exact congrArg (· ++ _) k4
 have e6 : cs.drop 6 = [vi x3] ++ ([vi x4] ++ []) := by rw [drop_split cs 6 1, e7]; exact congrArg (· ++ _) k3
 have e4 : cs.drop 4 = Result.enc x2 ++ ([vi x3] ++ ([vi x4] ++ [])) := by rw [drop_split cs 4 2, e6]; exact congrArg (· ++ _) k2
 have e1 : cs.drop 1 = Op.enc x1 ++ (Result.enc x2 ++ ([vi x3] ++ ([vi x4] ++ []))) := by rw [drop_split cs 1 3, e4]; exact congrArg (· ++ _) k1
 have e0 : cs.drop 0 = [vi x0] ++ (Op.enc x1 ++ (Result.enc x2 ++ ([vi x3] ++ ([vi x4] ++ [])))) := by rw [drop_split cs 0 1, e1]; exact congrArg (· ++ _) k0
 exact ⟨⟨x0, x1, x2, x3, x4⟩, (List.drop_zero (l := cs)).symm.trans e0, hl, w0, w1, w2, w3, w4⟩
namespace fnExactFormatEvent
open Go.ChangeShapes Go.WideShapes Go.ChangeAt Go.RowKit
theorem laidOut : laidOutB Tryd.prog = true := by kernel_rfl
theorem own : ownKnob Tryd.prog.godebug = none := by kernel_rfl
noncomputable def laid {H : Type} : List (String × DataW H) := [("math/bits.deBruijn32tab", Rows.laid_math_bits_deBruijn32tab), ("math/bits.deBruijn64tab", Rows.laid_math_bits_deBruijn64tab), ("internal/strconv.uint64pow10", Rows.laid_internal_strconv_uint64pow10)]
theorem door_met (os : Os) (args : Array Value) : laidMetH Tryd.prog laid ((World.doorLaid Tryd.prog 400 os).forCall (fun _ _ => 0) ⟨#[], args, []⟩).memory :=
  laidMetH_of_parts3 (fuel := 8) (laidMet_of_run' 8 (by kernel_rfl) (by kernel_rfl)) (by kernel_rfl) (by kernel_rfl)
theorem tab_of {W : World} (h : laidMetH Tryd.prog laid W) : Lib.TabIs Tryd.prog W "internal/strconv.uint64pow10" .u64 Lib.pow10Tab := by
 rw [MakeChecks.laidMetH_plain _ _ _ (by kernel_rfl)] at h
 exact Lib.tabIs_of_head (g := 1) (t := 68) (e := 61) (n := 20) (by kernel_rfl) (by kernel_rfl) (by kernel_rfl) (by kernel_rfl) (by kernel_rfl) (by kernel_rfl) (show laidMet Tryd.prog (("internal/strconv.uint64pow10", Lib.tabData .u64 Lib.pow10Tab) :: []) W from h.tail.tail)
theorem lifted (os : Os) (started : os.Started) (H : Type) (enc : TypeId × Value → H) :
    ReturnsInHanded {} Tryd.checked os 3 .any ((fun w args => (Rows.fnExactFormatEventSpec.pre enc Tryd.prog Tryd.f3 [] false w args ∧ laidMetH Tryd.prog laid w) ∧ sizedMet enc Tryd.prog Tryd.f3 (OpenSpec.ofChange Rows.fnExactFormatEventSpec) false w args)) (Rows.fnExactFormatEventSpec.post enc Tryd.prog Tryd.f3 false true false false) := by
  refine returnsInHanded_of_change_and (C := Tryd.checked) (X := fun w _ => laidMetH Tryd.prog laid w) (fun _ _ _ hh h => h.of_heap hh) own started (by kernel_rfl) Tryd.func3
    (ChangeSpec.witness_shaped (enc := enc) (C := Tryd.checked) (os := os) (X := fun w _ => laidMetH Tryd.prog laid w) false (World.doorLaid Tryd.prog 400 os) #[.agg #[.int .i64 0, .int .i64 0, .int .i64 0, .int .i64 0, .int .i64 0, .int .i64 0, .int .i64 0, .int .i64 0]] 8 rfl (World.shaped_of_RefB (by kernel_rfl) (by kernel_rfl)) (by kernel_rfl) (by kernel_rfl) (by kernel_rfl) (door_met os _)) ?_
  intro W base args ds gs before hval0 hW hcnd hsz0 hL _
  have hT := tab_of hL
  have hval : ∀ (j : Nat) t v, Tryd.f3.params[j]? = some t → args[j]? = some v → Value.okWide Tryd.prog W .any base t v := hval0
  have hW' := hW
  obtain ⟨p, q, hA0, hV, rfl, hfz, hnd⟩ := hW
  have hA : DataW.TrodAll enc Tryd.prog W 0 (fun _ => true) true Tryd.f3.params.toList args.toList ds p := hA0
  rw [Tryd.params3] at hA hval
  obtain ⟨v0, vs0, d0, ds0, p0, q0, hargs, rfl, rfl, h0, r0⟩ := trodAll_cons hA
  obtain ⟨rfl, rfl, rfl⟩ := trodAll_nil r0
  obtain rfl : args = #[v0] := by cases args; simp_all
  obtain ⟨rfl, rfl⟩ := trodVars_none hV
  have kk0 := h0
  have lt0 : ∀ x ∈ p0, x.block < W.heap.size := by obtain ⟨m, hm⟩ := kk0; exact DataW.trod_lt m _ _ _ hm
  obtain ⟨c0, rfl⟩ := okWide_struct fd27_0 (hval 0 27 v0 rfl rfl)
  obtain ⟨m0, hm0⟩ := h0; rw [agg_cells] at hm0
  obtain ⟨x0, k0, _, ok0⟩ := (op27).2 _ _ _ _ _ _ _ hm0; clear hm0
  obtain rfl := k0
  clear hA0 hval0
  refine (law_FnExactFormatEvent hT ok0).mono ?_
  rintro e W' ⟨v, rfl, rfl, bel⟩
  exact ⟨_, rfl, _, _, _, [], _, [], hW', trodAll_mk1 (shut_bool (by kernel_rfl : Tryd.prog.underlying 4 = some .bool) _), (trodAll_cons_mk (Below.trod laidOut (by kernel_rfl) (of_decide_eq_true (by kernel_rfl)) kk0 bel lt0) trodAll_mk0), rfl, bel.frame _, fun h => by cases h⟩
def restSigns : List Char := Sl.ch [97, 116, 32, 108, 111, 111, 112, 46, 101, 120, 97, 109, 112, 108, 101, 47, 103, 48, 49, 54, 50, 56, 47, 108, 97, 119, 115, 46, 70, 110, 69, 120, 97, 99, 116, 70, 111, 114, 109, 97, 116, 69, 118, 101, 110, 116]
theorem order : Tryd.pinned.checked.prog.initOrder = String.ofList (Sl.ch [104, 97, 114, 110, 101, 115, 115] ++ Sl.sp :: (Sl.ch [101, 48, 48, 55, 51, 52, 99, 55, 53, 99, 101, 50, 56, 101, 55, 53, 54, 98, 102, 101, 97, 55, 99, 55, 48, 50, 98, 54, 48, 55, 53, 56, 57, 98, 101, 51, 56, 101, 49, 102, 102, 98, 97, 101, 49, 98, 52, 98, 97, 48, 56, 48, 53, 57, 100, 102, 48, 99, 48, 97, 53, 97, 101, 100] ++ Sl.sp :: (Sl.ch [99, 117, 116] ++ Sl.sp :: restSigns))) := by kernel_rfl
theorem behind (X : List (List Char)) : behindMainWord (Sl.ch [104, 97, 114, 110, 101, 115, 115] :: Sl.ch [101, 48, 48, 55, 51, 52, 99, 55, 53, 99, 101, 50, 56, 101, 55, 53, 54, 98, 102, 101, 97, 55, 99, 55, 48, 50, 98, 54, 48, 55, 53, 56, 57, 98, 101, 51, 56, 101, 49, 102, 102, 98, 97, 101, 49, 98, 52, 98, 97, 48, 56, 48, 53, 57, 100, 102, 48, 99, 48, 97, 53, 97, 101, 100] :: Sl.ch [99, 117, 116] :: X) = "cut".toList :: X := by kernel_rfl
theorem heads : behindMainWord (wordsSigns Tryd.pinned.checked.prog.initOrder.toList) = "cut".toList :: wordsSigns restSigns := by
 rw [order, String.toList_ofList, Sl.words_sp _ _ (by decide), Sl.words_sp _ _ (by decide), Sl.words_sp _ _ (by decide)]; exact behind _
theorem facts : joinedFacts Tryd.pinned.checked.prog 3 Tryd.f3 Rows.fnExactFormatEventSpec Rows.fnExactFormatEventRow = true := by
 unfold joinedFacts; rw [Sl.enter_of heads (by kernel_rfl) (by kernel_rfl) (by kernel_rfl), Sl.final_of heads, Sl.made_of heads]; kernel_rfl
theorem over : Rows.fnExactFormatEventRow.holds Tryd.pinned (OpenSpec.ofChange Rows.fnExactFormatEventSpec) :=
  OpenClaim.holds_of_wide 3 Tryd.f3 rfl rfl rfl rfl rfl rfl rfl ⟨rfl, rfl, rfl, rfl, rfl⟩ rfl rfl rfl rfl rfl (by kernel_rfl) Tryd.func3 facts
    (of_decide_eq_true (by kernel_rfl)) (by unfold Func.isWrapper; first | (rw [if_pos (by decide +kernel)]; kernel_rfl) | (rw [if_neg (by decide +kernel)]; exact ⟨rfl, rfl⟩))
    (fun os started H enc _ => lifted os started H enc)
theorem proved : Rows.FnExactFormatEventSaid := over
theorem cardHolds : Rows.FnExactFormatEventCardSaid :=
  Claim7.holds_tied_plain_at .later [] [.data, .data, .data] true (true, "e00734c75ce28e756bfea7c702b607589be38e1ffbae1b4ba08059df0c0a5aed") false
    proved (fun _ h => by cases h) (by kernel_rfl) (fun _ h => by cases h) fnExactFormatEvent_row_tie rfl ⟨rfl, rfl⟩ (by kernel_rfl) rfl
    (fun f fn hf hfn => by
      obtain rfl : f = 3 := Option.some.inj ((show Tryd.prog.funcNamed "loop.example/g01628/laws.FnExactFormatEvent" = some 3 by kernel_rfl).symm.trans hf) |>.symm
      obtain rfl : fn = Tryd.f3 := (Option.some.inj (Tryd.func3.symm.trans hfn)).symm
      exact ⟨by kernel_rfl, fun j t ht => by
        rw [Tryd.params3] at ht
        have hm : t ∈ [27] := by simpa using Array.mem_of_getElem? ht
        have hall : ([27].all fun u => !Tryd.prog.wantsStandIn u) = true := by kernel_rfl
        exact (show Tryd.prog.wantsStandIn t = false by simpa using List.all_eq_true.1 hall t hm)⟩)
    (by kernel_rfl)
end fnExactFormatEvent
/-- The row, under a short name. -/
theorem fnExactFormatEventCard_holds : Rows.FnExactFormatEventCardSaid := fnExactFormatEvent.cardHolds
end Go.Proofs.YtbgacfdnmbhloaaDoor
