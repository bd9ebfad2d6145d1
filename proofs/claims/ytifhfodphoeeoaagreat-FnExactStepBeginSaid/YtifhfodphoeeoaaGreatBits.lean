/- Bits and shifts; a cursor over bytes, and what draws from it. No program in sight. -/
import Derived.Test.YtifhfodphoeeoaaGreatFresh
import Derived.Test.YtifhfodphoeeoaaGreatOpen
namespace Go.Proofs.YtifhfodphoeeoaaGreat.Sl
open Go Go.RowKit
set_option linter.unusedVariables false
set_option linter.unusedSimpArgs false

section
variable {P : Program} {ρ : Operand → Value} {w : World} {D : Option Tmp} {ty : TypeId} {ps : String} {af : Array Edge} {gd : Option (Nat × Bool)} {t t' : TypeId} {x y : Operand} {k k' yk : IntKind} {m q : Int}
theorem r_nilCheck {g o : Nat} (hx : ρ x = .pointer (some ⟨g, o, none⟩)) :
    (execOp ρ ⟨D, .nilCheck x, ty, ps, af, gd⟩).run P w = .ok (.value (.pointer (some ⟨g, o, none⟩))) w := by simp [execOp, hx, go_sem]
theorem r_and (hx : ρ x = .int k m) (hy : ρ y = .int k q) : (execOp ρ ⟨D, .binOp .and t x y t', ty, ps, af, gd⟩).run P w = .ok (.value (.int k (bits .and k m q))) w := by
  simp [execOp, hx, hy, go_sem]
theorem r_xor (hx : ρ x = .int k m) (hy : ρ y = .int k q) : (execOp ρ ⟨D, .binOp .xor t x y t', ty, ps, af, gd⟩).run P w = .ok (.value (.int k (bits .xor k m q))) w := by
  simp [execOp, hx, hy, go_sem]
theorem r_shr (h0 : 0 ≤ q) (hx : ρ x = .int k m) (hy : ρ y = .int yk q) : (execOp ρ ⟨D, .binOp .shr t x y t', ty, ps, af, gd⟩).run P w = .ok (.value (.int k (m / 2 ^ min q.toNat k.bits))) w := by
  simp [execOp, hx, hy, go_sem, binOp, shift_shr_any _ _ _ _ h0]
theorem r_convw (ht : P.underlying t = some (.int k)) (ht' : P.underlying t' = some (.int k')) (hx : ρ x = .int k m) : (execOp ρ ⟨D, .convert t t' x, ty, ps, af, gd⟩).run P w = .ok (.value (.int k' (k'.wrap m))) w := by
  simp [execOp, hx, convert, run_underlying ht, run_underlying ht', Conv.intToInt, go_sem]
theorem and_low {m : Int} {n : Nat} (hn : n < 9223372036854775808) : 0 ≤ bits .and .i64 m n ∧ bits .and .i64 m n ≤ n := by
  have h : (BitVec.ofInt 64 m &&& BitVec.ofInt 64 (n : Int)).toNat ≤ n := by
    rw [BitVec.toNat_and]
    refine Nat.le_trans Nat.and_le_right ?_
    simp
    omega
  have e : bits .and .i64 m n = IntKind.i64.wrap (BitVec.ofInt 64 m &&& BitVec.ofInt 64 (n : Int)).toNat := rfl
  rw [e, w64_id (by omega) (by omega)]
  omega
end
/-- bytes -/
abbrev byteEK : EK Int := flatEK 1 (fun n => [.int .u8 n]) (fun _ => rfl) (fun x u hu => by simp at hu; subst hu; rfl)
/-- a cursor over n bytes: where it stands and what it has mixed is left open -/
def Cur (g : Nat) (vb : Value) (n : Nat) : Res where
  P := fun S w => ∃ i h : Int, (0 ≤ i ∧ i ≤ n) ∧ (Box g [vb, vi i, vi h]).P S w
  loc := fun hk ⟨i, h, h0, hb⟩ => ⟨i, h, h0, (Box g [vb, vi i, vi h]).loc hk hb⟩
  mono := fun hs ⟨i, h, h0, hb⟩ => ⟨i, h, h0, (Box g [vb, vi i, vi h]).mono hs hb⟩
section
variable {w0 w : World} {l : List Res} {g n q : Nat} {vb : Value}
theorem Sep.head_as {r r' : Res} (h : Sep w0 (r :: l) w) (hr : ∀ S, r.P S w → r'.P S w) : Sep w0 (r' :: l) w := by
  obtain ⟨f, f1, f2, f3⟩ := h.sat
  refine ⟨h.old, f, fun j s hj => ?_, f2, f3⟩
  cases j with
  | zero => simp at hj; subst hj; exact hr _ (f1 0 r rfl)
  | succ j => exact f1 (j + 1) s hj
theorem Sep.cur_open (h : Sep w0 (Cur g vb n :: l) w) : ∃ i k : Int, (0 ≤ i ∧ i ≤ n) ∧ Sep w0 (Box g [vb, vi i, vi k] :: l) w := by
  obtain ⟨f, f1, f2, f3⟩ := h.sat
  obtain ⟨i, k, h0, hb⟩ := f1 0 _ rfl
  refine ⟨i, k, h0, h.old, f, fun j s hj => ?_, f2, f3⟩
  cases j with
  | zero => simp at hj; subst hj; exact hb
  | succ j => exact f1 (j + 1) s hj
theorem Sep.cur_close {i k : Int} (h : Sep w0 (Box g [vb, vi i, vi k] :: l) w) (hi : 0 ≤ i ∧ i ≤ n) : Sep w0 (Cur g vb n :: l) w :=
  h.head_as fun _ hb => ⟨i, k, hi, hb⟩
theorem Sep.unpull {r : Res} {p : Nat} (h : Sep w0 (r :: l.eraseIdx p) w) (hp : l[p]? = some r) : Sep w0 l w := by
  have hlt := (List.getElem?_eq_some_iff.1 hp).1
  refine h.sub (fun i => if i = p then 0 else if i < p then i + 1 else i) ?_ ?_
  · intro i j _ _ e
    revert e
    repeat' split
    all_goals intro e; omega
  · intro i s hs
    by_cases e : i = p
    · subst e; simp only [if_true, List.getElem?_cons_zero]; rw [← hp, hs]
    · simp only [if_neg e]
      by_cases e2 : i < p
      · simp only [if_pos e2, List.getElem?_cons_succ, List.getElem?_eraseIdx]; exact hs
      · obtain ⟨i', rfl⟩ : ∃ i', i = i' + 1 := ⟨i - 1, by omega⟩
        simp only [if_neg e2, List.getElem?_cons_succ, List.getElem?_eraseIdx]
        rw [if_neg (by omega)]; exact hs
/-- a draw, wherever the cursor stands among the parts -/
theorem draw_at {P : Program} {F : FuncId} {args : Array Value} {R : Value → Prop} (hc : ∀ l w, Sep w0 (Cur g vb n :: l) w → Calls P F args w (Ret fun v w' => R v ∧ Sep w0 (Cur g vb n :: l) w'))
    (hS : Sep w0 l w) (hq : l[q]? = some (Cur g vb n)) : Calls P F args w (Ret fun v w' => R v ∧ Sep w0 l w') := by
  refine (hc _ _ (hS.pull hq)).mono ?_
  rintro e w' ⟨v, rfl, hr, h⟩
  exact ⟨v, rfl, hr, h.unpull hq⟩
end
section
variable {P : Program} {ops : Array Oper} {Q : Exit → Act → World → Prop} {wd W : World} {T : Alcs} {muts : List Nat} {n : Nat} {L : List (Nat × Value)} {l : List Res}
/-- a draw inside a region that draws its order: all parts stay -/
theorem op_dw {Γ : Type} {R : Γ → Prop} {m' : List Nat} {i : Nat} {is : List Nat} {o : Oper} {d : Nat} {f : FuncId} {args : Array Value} {val : Γ → Value} (hL : T.all (fun t => (lk L t.2.1).isNone) = true) (ho : ops[i]? = some o) (hg : GW ops n L o) (hd : o.dst = some d) (hdn : Nat.ble (d + 1) n = true) (hT : T.all (fun t => t.2.1 != d) = true) (hm : muts.contains i = true)
    (hr : ∀ a w, Fr n L a → (execOp a.eval o).run P w = .ok (.enter f args) w) (hc : ∀ M w, Sep W (M :: l) w → Calls P f args w (Ret fun v w' => (∃ γ, v = val γ ∧ R γ) ∧ Sep W (M :: l) w'))
    (k : ∀ γ, R γ → ∀ wd', Sep W l wd' → ∀ rem a w, Rem T rem → Fr n ((d, val γ) :: L) a → At T wd' W l rem a w → Todo P ops Q wd' m' rem is a w) :
    ∀ rem a w, Rem T rem → Fr n L a → At T wd W l rem a w → wpOp P ops (QN Q) i (fun a' w' => (Below wd.heap.size wd w' ∧ Todo P ops Q wd muts rem is a' w') ∨ (muts.contains i = true ∧ ∃ m', Todo P ops Q w' m' rem is a' w')) a w := by
  intro rem a w hR hF hA
  refine wpOp_ofW ho (hg a hF) ?_
  unfold Oper.wp
  rw [hr a w hF, Oper.upon_enter]
  obtain ⟨gs, hb, hp⟩ := hA.box
  refine (hc _ w hb).mono ?_
  rintro e w1 ⟨v, rfl, ⟨γ, rfl, hRr⟩, hS⟩
  show _ ∨ _
  rw [hd]
  have hA' : At T w1 W l rem a w1 := ⟨Below.refl _ _, gs, hS, hp⟩
  exact .inr ⟨hm, m', k γ hRr w1 hS.tail rem _ _ hR (hF.put hdn _) (hA'.put (fun t ht => by simpa using List.all_eq_true.1 hT t ht))⟩
end
theorem four_bytes {a b c d : Int} (ha : 0 ≤ a ∧ a ≤ 255) (hb : 0 ≤ b ∧ b ≤ 255) (hc : 0 ≤ c ∧ c ≤ 255) (hd : 0 ≤ d ∧ d ≤ 255) :
    0 ≤ IntKind.i64.wrap (IntKind.i64.wrap (IntKind.i64.wrap (IntKind.i64.wrap (a * 16777216) + IntKind.i64.wrap (b * 65536)) + IntKind.i64.wrap (c * 256)) + d) := by
  rw [w64_id (q := a * 16777216) (by omega) (by omega), w64_id (q := b * 65536) (by omega) (by omega), w64_id (q := c * 256) (by omega) (by omega), w64_id (q := a * 16777216 + b * 65536) (by omega) (by omega), w64_id (q := a * 16777216 + b * 65536 + c * 256) (by omega) (by omega), w64_id (by omega) (by omega)]
  omega
section
variable {P : Program} {a : Act} {w w0 : World} {n : Nat} {L : List (Nat × Value)} {l : List Res}
theorem ret3c {fn : Func} {t1 T1 g1 i1 : Nat} {cs1 : List Value} {t2 T2 g2 i2 : Nat} {cs2 : List Value} {t3 T3 g3 i3 : Nat} {cs3 : List Value} {R : Value → World → Prop} (hres : fn.results = #[.cell t1 T1, .cell t2 T2, .cell t3 T3]) (ha1 : aggB P T1 = true) (ha2 : aggB P T2 = true) (ha3 : aggB P T3 = true) (hF : Fr n L a) (hS : Sep w0 l w) (hi1 : l[i1]? = some (Box g1 cs1)) (hi2 : l[i2]? = some (Box g2 cs2)) (hi3 : l[i3]? = some (Box g3 cs3)) (hs1 : szB P T1 = some cs1.length) (hs2 : szB P T2 = some cs2.length) (hs3 : szB P T3 = some cs3.length) (hl1 : lk L t1 = some (.pointer (some ⟨g1, 0, none⟩))) (hl2 : lk L t2 = some (.pointer (some ⟨g2, 0, none⟩))) (hl3 : lk L t3 = some (.pointer (some ⟨g3, 0, none⟩))) (hR : R (.tuple #[.agg cs1.toArray, .agg cs2.toArray, .agg cs3.toArray]) w) : bodyPost P fn (Ret R) .ret a w := by
  refine ⟨hF.defs, .tuple #[.agg cs1.toArray, .agg cs2.toArray, .agg cs3.toArray], ?_, _, rfl, hR⟩
  have e1 := hF.get _ _ hl1
  have f1 := run_loadVar_agg (P := P) (w := w) (g := g1) ha1 hs1 (fun j u hu => hS.box hi1 hu)
  have e2 := hF.get _ _ hl2
  have f2 := run_loadVar_agg (P := P) (w := w) (g := g2) ha2 hs2 (fun j u hu => hS.box hi2 hu)
  have e3 := hF.get _ _ hl3
  have f3 := run_loadVar_agg (P := P) (w := w) (g := g3) ha3 hs3 (fun j u hu => hS.box hi3 hu)
  simp [results, hres, Array.getD_eq_getD_getElem?, asAddr, e1, f1, e2, f2, e3, f3]
theorem ret4c {fn : Func} {t1 T1 g1 i1 : Nat} {cs1 : List Value} {t2 T2 g2 i2 : Nat} {cs2 : List Value} {t3 T3 g3 i3 : Nat} {cs3 : List Value} {t0 : Nat} {v0 : Value} {R : Value → World → Prop} (hres : fn.results = #[.cell t1 T1, .cell t2 T2, .tmp t0, .cell t3 T3]) (ha1 : aggB P T1 = true) (ha2 : aggB P T2 = true) (ha3 : aggB P T3 = true) (hF : Fr n L a) (hS : Sep w0 l w) (hi1 : l[i1]? = some (Box g1 cs1)) (hi2 : l[i2]? = some (Box g2 cs2)) (hi3 : l[i3]? = some (Box g3 cs3)) (hs1 : szB P T1 = some cs1.length) (hs2 : szB P T2 = some cs2.length) (hs3 : szB P T3 = some cs3.length) (hl1 : lk L t1 = some (.pointer (some ⟨g1, 0, none⟩))) (hl2 : lk L t2 = some (.pointer (some ⟨g2, 0, none⟩))) (hl3 : lk L t3 = some (.pointer (some ⟨g3, 0, none⟩))) (hl0 : lk L t0 = some v0) (hR : R (.tuple #[.agg cs1.toArray, .agg cs2.toArray, v0, .agg cs3.toArray]) w) : bodyPost P fn (Ret R) .ret a w := by
  refine ⟨hF.defs, .tuple #[.agg cs1.toArray, .agg cs2.toArray, v0, .agg cs3.toArray], ?_, _, rfl, hR⟩
  have e1 := hF.get _ _ hl1
  have f1 := run_loadVar_agg (P := P) (w := w) (g := g1) ha1 hs1 (fun j u hu => hS.box hi1 hu)
  have e2 := hF.get _ _ hl2
  have f2 := run_loadVar_agg (P := P) (w := w) (g := g2) ha2 hs2 (fun j u hu => hS.box hi2 hu)
  have e3 := hF.get _ _ hl3
  have f3 := run_loadVar_agg (P := P) (w := w) (g := g3) ha3 hs3 (fun j u hu => hS.box hi3 hu)
  have e0 := hF.get _ _ hl0
  simp [results, hres, Array.getD_eq_getD_getElem?, asAddr, e1, f1, e2, f2, e3, f3, e0]
end
theorem opens_byte {P : Program} {t : TypeId} (ht : P.underlying t = some (.int .u8)) (hc : P.cellsOf t = 1) : Opens P t 1 (fun _ n cs => cs = [.int .u8 n]) (fun _ => True) := by
  refine ⟨hc, fun H enc W sp fuel cs y h => ?_⟩
  obtain ⟨n, rfl, _, hw⟩ := DataW.trod_int ht h
  exact ⟨n, rfl, rfl, trivial⟩
end Go.Proofs.YtifhfodphoeeoaaGreat.Sl
