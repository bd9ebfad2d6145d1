/- Operations over memory that lies in parts: boxes, fields, elements of rows; calls; ends of functions; loops with a ghost. No program in sight. -/
import Derived.Test.YtifhfodphoeeoaaGreatMem
namespace Go.Proofs.YtifhfodphoeeoaaGreat.Sl
open Go Go.RowKit
set_option linter.unusedVariables false
set_option linter.unusedSimpArgs false

/-! ### what is asked of the program's table of types -/
def scalB (P : Program) (t : TypeId) : Bool :=
  match P.underlying t with
  | some (.struct _) | some (.array _ _) => false
  | some _ => true
  | none => false
def aggB (P : Program) (t : TypeId) : Bool :=
  match P.underlying t with
  | some (.struct _) | some (.array _ _) => true
  | _ => false
def szB (P : Program) (t : TypeId) : Option Nat := (P.info? t).map (·.size)
def zeroOf (P : Program) (t : TypeId) : Option (List Value) := (P.info? t).bind fun i => i.zero.map fun v => v.cells.toList
def offB (P : Program) (t : TypeId) (f : Nat) : Option Nat :=
  match P.underlying t with
  | some (.struct fs) => (fs[f]?).bind fun fd => (P.info? fd.type).bind fun i => if i.size = 0 then none else some fd.offset
  | _ => none
/-- a slice type: its element's size, its element's bytes -/
def slB (P : Program) (t : TypeId) : Option (Nat × Nat) :=
  match P.underlying t with
  | some (.slice e) => (P.info? e).map fun i => (i.size, i.bytes)
  | _ => none

/-- a call of this function is a call of its own Go text -/
def enterB (P : Program) (f : FuncId) : Bool :=
  match P.funcs[f]? with
  | some fn => !(fn.name == "runtime.NumGoroutine") && fn.body.isSome
  | none => false

section
variable {P : Program} {ρ : Operand → Value} {w : World} {D : Option Tmp} {ty : TypeId} {ps : String} {af : Array Edge} {gd : Option (Nat × Bool)}

theorem run_isAgg_false {t : TypeId} (h : scalB P t = true) : (isAgg t).run P w = .ok false w := by
  unfold scalB at h
  split at h
  all_goals first
    | (simp at h; done)
    | skip
  rename_i d h1 h2 hd
  cases d <;> simp_all [isAgg, underlying, go_sem]
theorem run_isAgg_true {t : TypeId} (h : aggB P t = true) : (isAgg t).run P w = .ok true w := by
  unfold aggB at h
  split at h
  · rename_i fs hd; simp [isAgg, underlying, hd, go_sem]
  · rename_i n e hd; simp [isAgg, underlying, hd, go_sem]
  · simp at h
theorem run_sizeOf {t : TypeId} {m : Nat} (h : szB P t = some m) : (sizeOf t).run P w = .ok m w := by
  unfold szB at h
  obtain ⟨i, hi, rfl⟩ := Option.map_eq_some_iff.1 h
  simp [sizeOf, typeInfo, hi, go_sem]

theorem r_load1 {t : TypeId} {x : Operand} {ad : Addr} {v : Value} (ht : scalB P t = true) (hp : ρ x = .pointer (some ad)) (hc : w.cell? ad = some v) :
    (execOp ρ ⟨D, .load t x, ty, ps, af, gd⟩).run P w = .ok (.value v) w := by
  have h1 := run_isAgg_false (P := P) (w := w) ht
  simp [execOp, hp, Instr.loadAt, Instr.sureAddr, loadVar, h1, go_sem, hc]

theorem run_loadCellsFrom {g o : Nat} : ∀ (cs : List Value) (i : Nat) (acc : Array Value), (∀ j u, cs[j]? = some u → w.cell? ⟨g, o + (i + j), none⟩ = some u) →
    (loadCellsFrom ⟨g, o, none⟩ i cs.length acc).run P w = .ok (acc ++ cs.toArray) w
  | [], i, acc, _ => by simp [loadCellsFrom, go_sem]
  | v :: cs, i, acc, h => by
    have h0 : w.cell? ⟨g, o + i, none⟩ = some v := by simpa using h 0 v rfl
    have ih := run_loadCellsFrom cs (i + 1) (acc.push v) (fun j u hu => by
      have := h (j + 1) u (by simpa using hu)
      rwa [show i + (j + 1) = i + 1 + j by omega] at this)
    simp only [List.length_cons, loadCellsFrom, Addr.add_lit]
    simp [go_sem, h0, ih]

theorem r_loadn {t : TypeId} {x : Operand} {g o : Nat} {cs : List Value} (ht : aggB P t = true) (hp : ρ x = .pointer (some ⟨g, o, none⟩))
    (hc : ∀ j u, cs[j]? = some u → w.cell? ⟨g, o + j, none⟩ = some u) (hs : szB P t = some cs.length) :
    (execOp ρ ⟨D, .load t x, ty, ps, af, gd⟩).run P w = .ok (.value (.agg cs.toArray)) w := by
  have h1 := run_isAgg_true (P := P) (w := w) ht
  have h2 := run_sizeOf (P := P) (w := w) hs
  have h3 := run_loadCellsFrom (P := P) (w := w) (g := g) (o := o) cs 0 #[] (fun j u hu => by simpa using hc j u hu)
  simp at h3
  simp [execOp, hp, Instr.loadAt, Instr.sureAddr, loadVar, h1, h2, h3, go_sem, loadCells]

theorem r_field {t : TypeId} {x : Operand} {f g o m : Nat} (ht : offB P t f = some m) (hp : ρ x = .pointer (some ⟨g, o, none⟩)) :
    (execOp ρ ⟨D, .fieldAddr t x f, ty, ps, af, gd⟩).run P w = .ok (.value (.pointer (some ⟨g, o + m, none⟩))) w := by
  unfold offB at ht
  split at ht
  · rename_i fs hfs
    obtain ⟨fd, hfd, ht⟩ := Option.bind_eq_some_iff.1 ht
    obtain ⟨i, hi, ht⟩ := Option.bind_eq_some_iff.1 ht
    split at ht
    · simp at ht
    · rename_i hne
      obtain rfl := Option.some.inj ht
      have hs : (sizeOf fd.type).run P w = .ok i.size w := run_sizeOf (by simp [szB, hi])
      simp [execOp, hp, Instr.fieldAt, underlying, hfs, hfd, Instr.sureAddr, fieldPlace, go_sem, hs, hne]
  · simp at ht

theorem r_box {T : TypeId} {x : Operand} {v : Value} (hx : ρ x = v) : (execOp ρ ⟨D, .box T x, ty, ps, af, gd⟩).run P w = .ok (.value (.pointer (some ⟨w.heap.size, 0, none⟩))) (w.alloc (.cells v.cells T)) := by
  subst hx
  simp only [execOp, Instr.box, newVar, newRow]
  simp
theorem r_alloc {T : TypeId} {cs : List Value} (hz : zeroOf P T = some cs) : (execOp ρ ⟨D, .alloc T, ty, ps, af, gd⟩).run P w = .ok (.value (.pointer (some ⟨w.heap.size, 0, none⟩))) (w.alloc (.cells cs.toArray T)) := by
  unfold zeroOf at hz
  obtain ⟨i, hi, hz⟩ := Option.bind_eq_some_iff.1 hz
  obtain ⟨z, hzz, rfl⟩ := Option.map_eq_some_iff.1 hz
  simp [execOp, Instr.alloc, zeroValue, typeInfo, hi, hzz, newVar, newRow, go_sem]
theorem r_store1 {T : TypeId} {x y : Operand} {g q : Nat} {u v : Value} (hsz : szB P T = some 1) (hp : ρ x = .pointer (some ⟨g, q, none⟩)) (hy : ρ y = v) (h1 : v.oneCell' = true) (hc : w.cell? ⟨g, q, none⟩ = some u) (hf : w.frozen? ⟨g, q, none⟩ = false) :
    (execOp ρ ⟨D, .store T x y, ty, ps, af, gd⟩).run P w = .ok .skip (w.setCell ⟨g, q, none⟩ v) := by
  have hs := run_sizeOf (P := P) (w := w) hsz
  have hv : v.cells = #[v] := by cases v <;> simp_all [Value.cells, Value.oneCell']
  have hst : (storeVar T ⟨g, q, none⟩ v).run P w = .ok () (w.setCell ⟨g, q, none⟩ v) := by
    simp [storeVar, hv, hs, storeCells, run_store _ _ _ _ _ h1, hc, hf, Addr.add_zero']
  simp [execOp, hp, hy, Instr.storeAt, Instr.sureAddr, hst]
theorem r_index {t : TypeId} {x y : Operand} {g o m c sz b : Nat} {i : Int} {k : IntKind} (ht : slB P t = some (sz, b)) (hx : ρ x = .slice (some ⟨g, o, none⟩) m c) (hy : ρ y = .int k i) (h0 : 0 ≤ i) (h1 : i < m) :
    (execOp ρ ⟨D, .indexAddr t x y, ty, ps, af, gd⟩).run P w = .ok (.value (.pointer (some ⟨g, o + i.toNat * sz, none⟩))) w := by
  unfold slB at ht
  split at ht
  · rename_i e he
    obtain ⟨ti, hi, h2⟩ := Option.map_eq_some_iff.1 ht
    simp only [Prod.mk.injEq] at h2
    obtain ⟨rfl, _⟩ := h2
    have hs : (sizeOf e).run P w = .ok ti.size w := run_sizeOf (by simp [szB, hi])
    simp [execOp, hx, hy, Instr.indexAt, underlying, he, asIntOf, go_sem, h0, h1, hs]
  · simp at ht
end

section
variable {P : Program} {ops : Array Oper} {Q : Exit → Act → World → Prop} {a : Act} {w w0 : World} {rest : List Oper} {o : Oper} {n d : Nat} {L : List (Nat × Value)} {l : List Res} {v : Value}
variable {ty : TypeId} {ps : String} {af : Array Edge}

/-- as many at least -/
def longB : List Value → List Value → Bool
  | _, [] => true
  | _ :: a, _ :: b => longB a b
  | [], _ :: _ => false
theorem longB_le : ∀ (a b : List Value), longB a b = true → b.length ≤ a.length
  | _, [], _ => Nat.zero_le _
  | _ :: a, _ :: b, h => by have := longB_le a b h; simp; omega
  | [], _ :: _, h => by simp [longB] at h
/-- as many -/
def evenB : List Value → List Value → Bool
  | [], [] => true
  | _ :: a, _ :: b => evenB a b
  | _, _ => false
theorem evenB_eq : ∀ (a b : List Value), evenB a b = true → a.length = b.length
  | [], [], _ => rfl
  | _ :: a, _ :: b, h => by have := evenB_eq a b h; simp; omega
  | [], _ :: _, h => by simp [evenB] at h
  | _ :: _, [], h => by simp [evenB] at h
theorem lt_of_some {cs : List Value} {q : Nat} (h : (cs[q]?).isSome = true) : q < cs.length := by
  obtain ⟨v, hv⟩ := Option.isSome_iff_exists.1 h
  exact (List.getElem?_eq_some_iff.1 hv).1
theorem long_fits {cs vs : List Value} {q : Nat} (h : longB (cs.drop q) vs = true) (hq : ((cs.drop q)[0]?).isSome = true) : q + vs.length ≤ cs.length := by
  have h1 := longB_le _ _ h
  have h2 := lt_of_some hq
  simp only [List.length_drop] at h1 h2
  omega
theorem wl_box {T : TypeId} {x : Operand} {cs : List Value} (hF : Fr n L a) (hS : Sep w0 l w) (hdn : Nat.ble (d + 1) n = true) (hx : a.eval x = v) (hcs : v.cells.toList = cs)
    (k : ∀ g w' a, Sep w0 (Box g cs :: l) w' → Below w.heap.size w w' → Fr n ((d, .pointer (some ⟨g, 0, none⟩)) :: L) a → wpList P ops Q rest a w') : wpList P ops Q (⟨some d, .box T x, ty, ps, af, none⟩ :: rest) a w := by
  subst hcs
  exact wl (w' := w.alloc (.cells v.cells.toList.toArray T)) hF rfl rfl hdn (by simpa using r_box hx) (fun a hF => k _ _ _ (hS.box_new _ T) ((Below.refl _ _).alloc (Nat.le_refl _) _) hF)
theorem wl_alloc {T : TypeId} {cs : List Value} (hF : Fr n L a) (hS : Sep w0 l w) (hdn : Nat.ble (d + 1) n = true) (hz : zeroOf P T = some cs)
    (k : ∀ g w' a, Sep w0 (Box g cs :: l) w' → Below w.heap.size w w' → Fr n ((d, .pointer (some ⟨g, 0, none⟩)) :: L) a → wpList P ops Q rest a w') : wpList P ops Q (⟨some d, .alloc T, ty, ps, af, none⟩ :: rest) a w := by
  exact wl (w' := w.alloc (.cells cs.toArray T)) hF rfl rfl hdn (r_alloc hz) (fun a hF => k _ _ _ (hS.box_new cs T) ((Below.refl _ _).alloc (Nat.le_refl _) _) hF)
/-- a store of one cell into a box -/
theorem wl_store {T : TypeId} {x y : Operand} {i g q : Nat} {cs : List Value} (hF : Fr n L a) (hS : Sep w0 l w) (hi : l[i]? = some (Box g cs)) (hsz : szB P T = some 1) (hp : a.eval x = .pointer (some ⟨g, q, none⟩)) (hy : a.eval y = v)
    (h1 : v.oneCell' = true) (hq : (cs[q]?).isSome = true) (k : ∀ w', Sep w0 (l.set i (Box g (cs.set q v))) w' → wpList P ops Q rest a w') : wpList P ops Q (⟨none, .store T x y, ty, ps, af, none⟩ :: rest) a w := by
  have hq' : q < cs.length := lt_of_some hq
  exact wl0 hF rfl rfl (r_store1 hsz hp hy h1 (hS.box hi (List.getElem?_eq_getElem hq')) (hS.box_frozen hi q)) (k _ (hS.box_set hi q v))

/-! ### boxes that are read -/
theorem Sep.boxn {i g o m : Nat} {cs vs : List Value} (h : Sep w0 l w) (hi : l[i]? = some (Box g cs)) (hv : (cs.drop o).take m = vs) : ∀ j u, vs[j]? = some u → w.cell? ⟨g, o + j, none⟩ = some u := by
  intro j u hu
  subst hv
  rw [List.getElem?_take] at hu
  split at hu
  · exact h.box hi (by rw [List.getElem?_drop] at hu; exact hu)
  · simp at hu

/-! ### the ways of a condition -/
theorem wc_dec {p : Prop} [Decidable p] {c : Operand} {x y : Code} (hc : a.eval c = .bool (decide p)) (h1 : p → x.wp P Q a w) (h2 : ¬ p → y.wp P Q a w) : (Code.cond c x y).wp P Q a w :=
  wp_cond_split hc (fun h => h1 (of_decide_eq_true h)) (fun h => h2 (of_decide_eq_false h))
theorem wc_ndec {p : Prop} [Decidable p] {c : Operand} {x y : Code} (hc : a.eval c = .bool (!decide p)) (h1 : ¬ p → x.wp P Q a w) (h2 : p → y.wp P Q a w) : (Code.cond c x y).wp P Q a w :=
  wp_cond_split hc (fun h => h1 (by simpa using h)) (fun h => h2 (by simpa using h))
theorem wc_true {c : Operand} {x y : Code} (hc : a.eval c = .bool true) (h1 : x.wp P Q a w) : (Code.cond c x y).wp P Q a w := wp_cond_true hc h1
theorem wc_false {c : Operand} {x y : Code} (hc : a.eval c = .bool false) (h1 : y.wp P Q a w) : (Code.cond c x y).wp P Q a w := wp_cond_false hc h1
theorem wc_b {b : Bool} {c : Operand} {x y : Code} (hc : a.eval c = .bool b) (h1 : b = true → x.wp P Q a w) (h2 : b = false → y.wp P Q a w) : (Code.cond c x y).wp P Q a w := wp_cond_split hc h1 h2
theorem bsplit {C : Prop} {t : Nat} {b : Bool} (hF : Fr n L a) (ht : lk L t = some (.bool b)) (h1 : b = true → Fr n ((t, .bool true) :: L) a → C) (h2 : b = false → Fr n ((t, .bool false) :: L) a → C) : C := by
  have hx : ∀ c, b = c → Fr n ((t, .bool c) :: L) a := fun c e => Fr.keep hF hF (by rw [ht, e])
  cases hb : b with
  | true => exact h1 hb (hx _ hb)
  | false => exact h2 hb (hx _ hb)
theorem r_pick_t {ρ : Operand → Value} {D : Option Tmp} {gd : Option (Nat × Bool)} {c x y : Operand} {u : Value} (hc : ρ c = .bool true) (hx : ρ x = u) : (execOp ρ ⟨D, .pick c x y, ty, ps, af, gd⟩).run P w = .ok (.value u) w := by
  subst hx; simp [execOp, hc, asBool, go_sem]
theorem r_pick_f {ρ : Operand → Value} {D : Option Tmp} {gd : Option (Nat × Bool)} {c x y : Operand} {u : Value} (hc : ρ c = .bool false) (hy : ρ y = u) : (execOp ρ ⟨D, .pick c x y, ty, ps, af, gd⟩).run P w = .ok (.value u) w := by
  subst hy; simp [execOp, hc, asBool, go_sem]
/-- a slot's value, spelled otherwise -/
theorem Fr.keepE {L' : List (Nat × Value)} (h' : Fr n L' a) (h : Fr n L a) {t : Nat} {v v' : Value} (hl : lk L t = some v) (e : v = v') : Fr n ((t, v') :: L') a := by subst e; exact h'.keep h hl

/-! ### calls -/
section
variable {D : Option Tmp} {gd : Option (Nat × Bool)} {f : FuncId} {x x1 x2 x3 x4 x5 x6 : Operand} {v1 v2 v3 v4 v5 v6 : Value} {ts : Array TypeId}
theorem run_callFunc (h : enterB P f = true) (args : Array Value) : (callFunc f args).run P w = .ok (.enter f args) w := by
  unfold enterB at h
  split at h
  · rename_i fn hfn
    simp only [Bool.and_eq_true, Bool.not_eq_true'] at h
    obtain ⟨h1, h2⟩ := h
    have h3 : fn.body.isNone = false := by cases hb : fn.body <;> simp_all
    have h4 : ¬ fn.name = "runtime.NumGoroutine" := by simpa using h1
    have h5 : ¬ fn.body = none := by cases hb : fn.body <;> simp_all
    simp [callFunc, hfn, h4, h5]
  · simp at h
theorem rr_call {ρ : Operand → Value} {vs : Array Value} {args : Array Operand} (h : enterB P f = true) {cap : Array Value} (hx : ρ x = .func (.func f) #[] cap) (hv : args.map ρ = vs) : (execOp ρ ⟨D, .call ⟨.value x, args, ts⟩, ty, ps, af, gd⟩).run P w = .ok (.enter f (vs ++ cap)) w := by
  subst hv
  simp [execOp, resolve, Deferred.ofValue, invoke, hx, run_callFunc h]
theorem r_call0 (h : enterB P f = true)  : (execOp a.eval ⟨D, .call ⟨.value (.func f), #[], ts⟩, ty, ps, af, gd⟩).run P w = .ok (.enter f #[]) w := by
  skip
  rw [show (#[] : Array Value) = (#[] : Array Operand).map a.eval ++ #[] from by simp]
  exact rr_call (x := .func f) h rfl rfl
theorem r_call1 {x1 : Operand} {v1 : Value} (h : enterB P f = true) (h1 : a.eval x1 = v1) : (execOp a.eval ⟨D, .call ⟨.value (.func f), #[x1], ts⟩, ty, ps, af, gd⟩).run P w = .ok (.enter f #[v1]) w := by
  subst h1
  rw [show (#[a.eval x1] : Array Value) = (#[x1] : Array Operand).map a.eval ++ #[] from by simp]
  exact rr_call (x := .func f) h rfl rfl
theorem r_callv1 {x1 : Operand} {v1 : Value} {cap : Array Value} (h : enterB P f = true) (hx : a.eval x = .func (.func f) #[] cap) (h1 : a.eval x1 = v1) : (execOp a.eval ⟨D, .call ⟨.value x, #[x1], ts⟩, ty, ps, af, gd⟩).run P w = .ok (.enter f (#[v1] ++ cap)) w := by
  subst h1
  rw [show (#[a.eval x1] : Array Value) = (#[x1] : Array Operand).map a.eval from by simp]
  exact rr_call h hx rfl
theorem r_call2 {x1 x2 : Operand} {v1 v2 : Value} (h : enterB P f = true) (h1 : a.eval x1 = v1) (h2 : a.eval x2 = v2) : (execOp a.eval ⟨D, .call ⟨.value (.func f), #[x1, x2], ts⟩, ty, ps, af, gd⟩).run P w = .ok (.enter f #[v1, v2]) w := by
  subst h1; subst h2
  rw [show (#[a.eval x1, a.eval x2] : Array Value) = (#[x1, x2] : Array Operand).map a.eval ++ #[] from by simp]
  exact rr_call (x := .func f) h rfl rfl
theorem r_callv2 {x1 x2 : Operand} {v1 v2 : Value} {cap : Array Value} (h : enterB P f = true) (hx : a.eval x = .func (.func f) #[] cap) (h1 : a.eval x1 = v1) (h2 : a.eval x2 = v2) : (execOp a.eval ⟨D, .call ⟨.value x, #[x1, x2], ts⟩, ty, ps, af, gd⟩).run P w = .ok (.enter f (#[v1, v2] ++ cap)) w := by
  subst h1; subst h2
  rw [show (#[a.eval x1, a.eval x2] : Array Value) = (#[x1, x2] : Array Operand).map a.eval from by simp]
  exact rr_call h hx rfl
theorem r_call3 {x1 x2 x3 : Operand} {v1 v2 v3 : Value} (h : enterB P f = true) (h1 : a.eval x1 = v1) (h2 : a.eval x2 = v2) (h3 : a.eval x3 = v3) : (execOp a.eval ⟨D, .call ⟨.value (.func f), #[x1, x2, x3], ts⟩, ty, ps, af, gd⟩).run P w = .ok (.enter f #[v1, v2, v3]) w := by
  subst h1; subst h2; subst h3
  rw [show (#[a.eval x1, a.eval x2, a.eval x3] : Array Value) = (#[x1, x2, x3] : Array Operand).map a.eval ++ #[] from by simp]
  exact rr_call (x := .func f) h rfl rfl
theorem r_call4 {x1 x2 x3 x4 : Operand} {v1 v2 v3 v4 : Value} (h : enterB P f = true) (h1 : a.eval x1 = v1) (h2 : a.eval x2 = v2) (h3 : a.eval x3 = v3) (h4 : a.eval x4 = v4) : (execOp a.eval ⟨D, .call ⟨.value (.func f), #[x1, x2, x3, x4], ts⟩, ty, ps, af, gd⟩).run P w = .ok (.enter f #[v1, v2, v3, v4]) w := by
  subst h1; subst h2; subst h3; subst h4
  rw [show (#[a.eval x1, a.eval x2, a.eval x3, a.eval x4] : Array Value) = (#[x1, x2, x3, x4] : Array Operand).map a.eval ++ #[] from by simp]
  exact rr_call (x := .func f) h rfl rfl
theorem r_call5 {x1 x2 x3 x4 x5 : Operand} {v1 v2 v3 v4 v5 : Value} (h : enterB P f = true) (h1 : a.eval x1 = v1) (h2 : a.eval x2 = v2) (h3 : a.eval x3 = v3) (h4 : a.eval x4 = v4) (h5 : a.eval x5 = v5) : (execOp a.eval ⟨D, .call ⟨.value (.func f), #[x1, x2, x3, x4, x5], ts⟩, ty, ps, af, gd⟩).run P w = .ok (.enter f #[v1, v2, v3, v4, v5]) w := by
  subst h1; subst h2; subst h3; subst h4; subst h5
  rw [show (#[a.eval x1, a.eval x2, a.eval x3, a.eval x4, a.eval x5] : Array Value) = (#[x1, x2, x3, x4, x5] : Array Operand).map a.eval ++ #[] from by simp]
  exact rr_call (x := .func f) h rfl rfl
theorem r_call6 {x1 x2 x3 x4 x5 x6 : Operand} {v1 v2 v3 v4 v5 v6 : Value} (h : enterB P f = true) (h1 : a.eval x1 = v1) (h2 : a.eval x2 = v2) (h3 : a.eval x3 = v3) (h4 : a.eval x4 = v4) (h5 : a.eval x5 = v5) (h6 : a.eval x6 = v6) : (execOp a.eval ⟨D, .call ⟨.value (.func f), #[x1, x2, x3, x4, x5, x6], ts⟩, ty, ps, af, gd⟩).run P w = .ok (.enter f #[v1, v2, v3, v4, v5, v6]) w := by
  subst h1; subst h2; subst h3; subst h4; subst h5; subst h6
  rw [show (#[a.eval x1, a.eval x2, a.eval x3, a.eval x4, a.eval x5, a.eval x6] : Array Value) = (#[x1, x2, x3, x4, x5, x6] : Array Operand).map a.eval ++ #[] from by simp]
  exact rr_call (x := .func f) h rfl rfl
theorem r_call7 {x1 x2 x3 x4 x5 x6 x7 : Operand} {v1 v2 v3 v4 v5 v6 v7 : Value} (h : enterB P f = true) (h1 : a.eval x1 = v1) (h2 : a.eval x2 = v2) (h3 : a.eval x3 = v3) (h4 : a.eval x4 = v4) (h5 : a.eval x5 = v5) (h6 : a.eval x6 = v6) (h7 : a.eval x7 = v7) : (execOp a.eval ⟨D, .call ⟨.value (.func f), #[x1, x2, x3, x4, x5, x6, x7], ts⟩, ty, ps, af, gd⟩).run P w = .ok (.enter f #[v1, v2, v3, v4, v5, v6, v7]) w := by
  subst h1; subst h2; subst h3; subst h4; subst h5; subst h6; subst h7
  rw [show (#[a.eval x1, a.eval x2, a.eval x3, a.eval x4, a.eval x5, a.eval x6, a.eval x7] : Array Value) = (#[x1, x2, x3, x4, x5, x6, x7] : Array Operand).map a.eval ++ #[] from by simp]
  exact rr_call (x := .func f) h rfl rfl
end

/-! ### joins, loops, ends -/
theorem wp_cut {x y : Code} (J : Act → World → Prop) (hx : x.wp P (Exit.then J Q) a w) (hy : ∀ a w, J a w → y.wp P Q a w) : (Code.seq x y).wp P Q a w := by
  refine wp_seq (wp_mono hx ?_)
  intro e a w h
  cases e <;> first | exact h | exact hy _ _ h
theorem wp_loop_g {σ : Type} {c : Code} (I : σ → Act → World → Prop) (μ : σ → Nat) (s0 : σ) (h0 : I s0 a w)
    (round : ∀ s a w, I s a w → c.wp P (Exit.then (fun a' w' => ∃ s', I s' a' w' ∧ μ s' < μ s) Q) a w) : (Code.loop c).wp P Q a w := by
  intro b k cs
  have key : ∀ m s a w, μ s = m → I s a w →
      ∃ e a' w', Q e a' w' ∧ Arrives P (lone (b.at a (.code c :: .inLoop c :: k)) cs w) b k cs e a' w' := by
    intro m
    induction m using Nat.strongRecOn with
    | _ m ih =>
      intro s a w hm hI
      obtain ⟨e, a₁, w₁, hq, harr⟩ := round s a w hI b (.inLoop c :: k) cs
      cases e with
      | normal =>
        obtain ⟨s', hI₁, hlt⟩ := hq
        obtain ⟨e₂, a₂, w₂, hq₂, harr₂⟩ := ih (μ s') (hm ▸ hlt) s' a₁ w₁ rfl hI₁
        exact ⟨e₂, a₂, w₂, hq₂, .of_steps (Steps.trans harr (.one step_inLoop)) harr₂⟩
      | exit id => exact ⟨_, a₁, w₁, hq, .pass (x := .inLoop c) rfl (fun _ _ => .inl (by simp)) harr⟩
      | goto l => exact ⟨_, a₁, w₁, hq, .pass (x := .inLoop c) rfl (fun _ _ => .inl (by simp)) harr⟩
      | ret => exact ⟨_, a₁, w₁, hq, .pass (x := .inLoop c) rfl (fun _ _ => .inl (by simp)) harr⟩
      | panic ch => exact ⟨_, a₁, w₁, hq, .pass (x := .inLoop c) rfl (fun _ _ => .inl (by simp)) harr⟩
      | outgrown => exact ⟨_, a₁, w₁, hq, .pass (x := .inLoop c) rfl (fun _ _ => .inl (by simp)) harr⟩
  obtain ⟨e, a', w', hq, harr⟩ := key _ s0 a w rfl h0
  exact ⟨e, a', w', hq, .of_steps (.one step_loop) harr⟩
theorem ret1 {fn : Func} {t : Nat} {R : Value → World → Prop} (hres : fn.results = #[.tmp t]) (hF : Fr n L a) (ht : lk L t = some v) (hR : R v w) : bodyPost P fn (Ret R) .ret a w := by
  refine ⟨hF.defs, v, ?_, v, rfl, hR⟩
  rw [results_tmp hres]
  have := hF.get _ _ ht
  simp [Array.getD_eq_getD_getElem?, this]
theorem ret2 {fn : Func} {t t' : Nat} {v' : Value} {R : Value → World → Prop} (hres : fn.results = #[.tmp t, .tmp t']) (hF : Fr n L a) (ht : lk L t = some v) (ht' : lk L t' = some v') (hR : R (.tuple #[v, v']) w) : bodyPost P fn (Ret R) .ret a w := by
  refine ⟨hF.defs, .tuple #[v, v'], ?_, _, rfl, hR⟩
  rw [results_tmp2 hres]
  have h1 := hF.get _ _ ht
  have h2 := hF.get _ _ ht'
  simp [Array.getD_eq_getD_getElem?, h1, h2]
theorem run_loadVar_agg {T : TypeId} {g : Nat} {cs : List Value} (ht : aggB P T = true) (hs : szB P T = some cs.length) (hc : ∀ j u, cs[j]? = some u → w.cell? ⟨g, j, none⟩ = some u) :
    (loadVar T ⟨g, 0, none⟩).run P w = .ok (.agg cs.toArray) w := by
  have h1 := run_isAgg_true (P := P) (w := w) ht
  have h2 := run_sizeOf (P := P) (w := w) hs
  have h3 := run_loadCellsFrom (P := P) (w := w) (g := g) (o := 0) cs 0 #[] (fun j u hu => by simpa using hc j u hu)
  simp at h3
  simp [loadVar, h1, h2, h3, go_sem, loadCells]
/-- the result lies in a box -/
theorem ret1c {fn : Func} {t T g i : Nat} {cs : List Value} {R : Value → World → Prop} (hres : fn.results = #[.cell t T]) (ht : aggB P T = true) (hF : Fr n L a) (hS : Sep w0 l w) (hi : l[i]? = some (Box g cs)) (hs : szB P T = some cs.length) (hl : lk L t = some (.pointer (some ⟨g, 0, none⟩))) (hR : R (.agg cs.toArray) w) : bodyPost P fn (Ret R) .ret a w := by
  refine ⟨hF.defs, .agg cs.toArray, ?_, _, rfl, hR⟩
  have h1 := hF.get _ _ hl
  have h2 := run_loadVar_agg (P := P) (w := w) (g := g) ht hs (fun j u hu => hS.box hi hu)
  simp [results, hres, Array.getD_eq_getD_getElem?, h1, asAddr, h2]
/-- two results, the first in a box -/
theorem ret2c {fn : Func} {t t' T g i : Nat} {cs : List Value} {v' : Value} {R : Value → World → Prop} (hres : fn.results = #[.cell t T, .tmp t']) (ht : aggB P T = true) (hF : Fr n L a) (hS : Sep w0 l w) (hi : l[i]? = some (Box g cs)) (hs : szB P T = some cs.length) (hl : lk L t = some (.pointer (some ⟨g, 0, none⟩))) (hl' : lk L t' = some v') (hR : R (.tuple #[.agg cs.toArray, v']) w) : bodyPost P fn (Ret R) .ret a w := by
  refine ⟨hF.defs, .tuple #[.agg cs.toArray, v'], ?_, _, rfl, hR⟩
  have h1 := hF.get _ _ hl
  have h3 := hF.get _ _ hl'
  have h2 := run_loadVar_agg (P := P) (w := w) (g := g) ht hs (fun j u hu => hS.box hi hu)
  simp [results, hres, Array.getD_eq_getD_getElem?, h1, h3, asAddr, h2]
theorem ret2cc {fn : Func} {t t' T T' g g' i i' : Nat} {cs cs' : List Value} {R : Value → World → Prop} (hres : fn.results = #[.cell t T, .cell t' T']) (ht : aggB P T = true) (ht' : aggB P T' = true) (hF : Fr n L a) (hS : Sep w0 l w) (hi : l[i]? = some (Box g cs)) (hi' : l[i']? = some (Box g' cs')) (hs : szB P T = some cs.length) (hs' : szB P T' = some cs'.length) (hl : lk L t = some (.pointer (some ⟨g, 0, none⟩))) (hl' : lk L t' = some (.pointer (some ⟨g', 0, none⟩))) (hR : R (.tuple #[.agg cs.toArray, .agg cs'.toArray]) w) : bodyPost P fn (Ret R) .ret a w := by
  refine ⟨hF.defs, .tuple #[.agg cs.toArray, .agg cs'.toArray], ?_, _, rfl, hR⟩
  have h1 := hF.get _ _ hl
  have h3 := hF.get _ _ hl'
  have h2 := run_loadVar_agg (P := P) (w := w) (g := g) ht hs (fun j u hu => hS.box hi hu)
  have h4 := run_loadVar_agg (P := P) (w := w) (g := g') ht' hs' (fun j u hu => hS.box hi' hu)
  simp [results, hres, Array.getD_eq_getD_getElem?, h1, h3, asAddr, h2, h4]
end

/-! ### regions that draw their order and change nothing that is there -/
section
variable {P : Program} {ops : Array Oper} {Q : Exit → Act → World → Prop} {a : Act} {w : World} {rest : List Oper} {o : Oper} {n d : Nat} {L : List (Nat × Value)} {v : Value} {Qa : Act → Prop}
theorem wp_region_calm {id : Nat} {l : List Oper} (hm : P.follows .mixedOrders = true) (hB : Region.lexB .any l.toArray = true)
    (h : wpQuiet P l.toArray (fun w' => Below w.heap.size w w') (fun a' => ∀ w', Below w.heap.size w w' → Q .normal a' w') l a) : (Code.region id l.toArray true).wp P Q a w :=
  wp_region_quiet (C := fun w' => Below w.heap.size w w') hm hB ((Below.refl _ _).drew) (by simpa using h)
theorem wq (hF : Fr n L a) (hg : o.guard = none) (hd : o.dst = some d) (hdn : Nat.ble (d + 1) n = true)
    (hr : ∀ w', Below w.heap.size w w' → (execOp a.eval o).run P w' = .ok (.value v) w') (k : ∀ a, Fr n ((d, v) :: L) a → wpQuiet P ops (fun w' => Below w.heap.size w w') Qa rest a) : wpQuiet P ops (fun w' => Below w.heap.size w w') Qa (o :: rest) a := by
  unfold wpQuiet
  rw [if_pos (by simp [Region.wanted, hg])]
  refine ⟨v, fun w' hw' => ?_, ?_⟩
  · unfold Oper.quietAt
    rw [hr w' hw']
    exact ⟨rfl, rfl⟩
  · rw [hd]; exact k _ (hF.put hdn v)
theorem wq_call {f : FuncId} {args : Array Value} (hF : Fr n L a) (hg : o.guard = none) (hd : o.dst = some d) (hdn : Nat.ble (d + 1) n = true)
    (hr : ∀ w', Below w.heap.size w w' → (execOp a.eval o).run P w' = .ok (.enter f args) w') (hc : ∀ w', Below w.heap.size w w' → Calls P f args w' (Ret fun u w'' => u = v ∧ Below w'.heap.size w' w''))
    (k : ∀ a, Fr n ((d, v) :: L) a → wpQuiet P ops (fun w' => Below w.heap.size w w') Qa rest a) : wpQuiet P ops (fun w' => Below w.heap.size w w') Qa (o :: rest) a := by
  unfold wpQuiet
  rw [if_pos (by simp [Region.wanted, hg])]
  refine ⟨v, fun w' hw' => ?_, ?_⟩
  · unfold Oper.quietAt
    rw [hr w' hw']
    refine ⟨rfl, (hc w' hw').mono ?_⟩
    rintro e w'' ⟨u, rfl, rfl, hb⟩
    exact ⟨rfl, hw'.trans (hb.mono hw'.size)⟩
  · rw [hd]; exact k _ (hF.put hdn v)
theorem wq_skip {j t : Nat} {b c : Bool} (hF : Fr n L a) (hg : o.guard = some (j, b)) (hj : (ops[j]?).bind (·.dst) = some t) (ht : lk L t = some (.bool c)) (hne : (c == b) = false)
    (hd : o.dst = some d) (hdn : Nat.ble (d + 1) n = true) (k : ∀ a, Fr n ((d, undef) :: L) a → wpQuiet P ops (fun w' => Below w.heap.size w w') Qa rest a) : wpQuiet P ops (fun w' => Below w.heap.size w w') Qa (o :: rest) a := by
  unfold wpQuiet
  have hw : Region.wanted o (yielded ops a.tmps) = false := by
    simp only [Region.wanted, hg, yielded_of hF hj ht]
    cases c <;> cases b <;> simp_all
  rw [hw]
  simp only [Bool.false_eq_true, if_false, hd]
  exact k _ (hF.put hdn undef)
theorem wq_take {j t : Nat} {b c : Bool} (hF : Fr n L a) (hg : o.guard = some (j, b)) (hj : (ops[j]?).bind (·.dst) = some t) (ht : lk L t = some (.bool c)) (heq : (c == b) = true)
    (k : wpQuiet P ops (fun w' => Below w.heap.size w w') Qa ({ o with guard := none } :: rest) a) : wpQuiet P ops (fun w' => Below w.heap.size w w') Qa (o :: rest) a := by
  unfold wpQuiet at *
  have hw : Region.wanted o (yielded ops a.tmps) = true := by
    simp only [Region.wanted, hg, yielded_of hF hj ht]
    cases c <;> cases b <;> simp_all
  have hw' : Region.wanted { o with guard := none } (yielded ops a.tmps) = true := rfl
  rw [if_pos hw]
  rw [if_pos hw'] at k
  exact k
end
theorem cellB {w w' : World} (hb : Below w.heap.size w w') {ad : Addr} {v : Value} (h : w.cell? ad = some v) : w'.cell? ad = some v := by
  rw [hb.cell (p := ad) (World.block_lt_of_cell? w _ h)]; exact h

theorem w64 (q : Int) : IntKind.i64.wrap q = (q + 9223372036854775808) % 18446744073709551616 - 9223372036854775808 := by
  simp [IntKind.wrap, IntKind.bits, IntKind.signed, IntKind.min]
  try omega
theorem w64_id {q : Int} (h0 : -9223372036854775808 ≤ q) (h1 : q ≤ 9223372036854775807) : IntKind.i64.wrap q = q := by
  rw [w64]; omega
end Go.Proofs.YtifhfodphoeeoaaGreat.Sl
