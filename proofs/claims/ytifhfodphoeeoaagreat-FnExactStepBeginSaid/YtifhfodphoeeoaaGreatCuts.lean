/- Slices of rows that are read, and of rows of one's own; copy within a row; structs of numbers held against each other. No program in sight. -/
import Derived.Test.YtifhfodphoeeoaaGreatAuto
namespace Go.Proofs.YtifhfodphoeeoaaGreat.Sl
open Go Go.RowKit
set_option linter.unusedVariables false
set_option linter.unusedSimpArgs false

/-! ### slices of slices -/
/-- where a slice's slice begins -/
def cutA (A : Option Addr) (sz c i : Nat) : Option Addr := if c = i then A else A.map (·.add (i * sz))
section
variable {P : Program} {ρ : Operand → Value} {w w0 : World} {D : Option Tmp} {ty : TypeId} {ps : String} {af : Array Edge} {gd : Option (Nat × Bool)} {t : TypeId} {x y z : Operand} {A : Option Addr} {n c i j sz b : Nat} {k k' : IntKind} {l : List Res}
theorem run_asInt (k : IntKind) (i : Int) : (asIntOf (.int k i)).run P w = .ok (k, i) w := by simp [asIntOf, go_sem]
theorem slB_parts (h : slB P t = some (sz, b)) : ∃ e, P.underlying t = some (.slice e) ∧ (sizeOf e).run P w = .ok sz w := by
  unfold slB at h
  split at h
  · rename_i e he
    obtain ⟨ti, hi, h2⟩ := Option.map_eq_some_iff.1 h
    simp only [Prod.mk.injEq] at h2
    exact ⟨e, he, run_sizeOf (by simp [szB, hi, h2.1])⟩
  · simp at h
theorem r_cutlo (ht : slB P t = some (sz, b)) (hx : ρ x = .slice A n c) (hy : ρ y = .int k (i : Int)) (h1 : i ≤ n) (h2 : n ≤ c) :
    (execOp ρ ⟨D, .slice t x (some y) none none, ty, ps, af, gd⟩).run P w = .ok (.value (.slice (cutA A sz c i) (n - i) (c - i))) w := by
  obtain ⟨e, he, hs⟩ := slB_parts (w := w) ht
  have h3 : (i : Int) ≤ n := by omega
  simp [execOp, hx, hy, Instr.sliceAt, Instr.slice, Instr.sliceBounds, Instr.sliceBound, run_asInt, run_underlying he, hs, h1, Nat.not_lt.2 h1, go_sem, cutA]
theorem r_cuthi (ht : slB P t = some (sz, b)) (hx : ρ x = .slice A n c) (hy : ρ y = .int k (j : Int)) (h1 : j ≤ c) :
    (execOp ρ ⟨D, .slice t x none (some y) none, ty, ps, af, gd⟩).run P w = .ok (.value (.slice A j c)) w := by
  obtain ⟨e, he, hs⟩ := slB_parts (w := w) ht
  have h3 : (j : Int) ≤ c := by omega
  have ha : ∀ (a : Addr), a.add 0 = a := fun a => Addr.add_zero' a
  cases A <;> simp [execOp, hx, hy, Instr.sliceAt, Instr.slice, Instr.sliceBounds, Instr.sliceBound, run_asInt, run_underlying he, hs, h1, Nat.not_lt.2 h1, go_sem, ha]
theorem r_cut (ht : slB P t = some (sz, b)) (hx : ρ x = .slice A n c) (hy : ρ y = .int k (i : Int)) (hz : ρ z = .int k' (j : Int)) (h1 : i ≤ j) (h2 : j ≤ c) :
    (execOp ρ ⟨D, .slice t x (some y) (some z) none, ty, ps, af, gd⟩).run P w = .ok (.value (.slice (cutA A sz c i) (j - i) (c - i))) w := by
  obtain ⟨e, he, hs⟩ := slB_parts (w := w) ht
  have h3 : (i : Int) ≤ j := by omega
  have h4 : (j : Int) ≤ c := by omega
  simp [execOp, hx, hy, hz, Instr.sliceAt, Instr.slice, Instr.sliceBounds, Instr.sliceBound, run_asInt, run_underlying he, hs, h1, h2, Nat.not_lt.2 h1, Nat.not_lt.2 h2, go_sem, cutA]
end
section
variable {α : Type} {ek : EK α} {w w0 : World} {A : Option Addr} {n c i j : Nat} {xs : List α} {l : List Res} {q : Nat}
/-- a slice of a row that is read -/
theorem Rd.cut (h : ek.Rd w (.slice A n c) xs) (h1 : i ≤ j) (h2 : j ≤ n) : ek.Rd w (.slice (cutA A ek.sz c i) (j - i) (c - i)) ((xs.take j).drop i) := by
  obtain ⟨A', n', c', e, hn, hc, hm, hx⟩ := h
  simp only [Value.slice.injEq] at e
  obtain ⟨rfl, rfl, rfl⟩ := e
  refine ⟨_, _, _, rfl, by simp; omega, by omega, by omega, fun p x hp => ?_⟩
  rw [List.getElem?_drop, List.getElem?_take] at hp
  split at hp
  · rename_i hlt
    obtain ⟨g, o, rfl, cs, k1, k2, k3⟩ := hx _ x hp
    have hne : ¬ c = i := by omega
    refine ⟨g, o + i * ek.sz, by simp [cutA, hne, Addr.add_lit], cs, k1, k2, fun jj u hu => ?_⟩
    have := k3 jj u hu
    rw [Nat.add_mul, ← Nat.add_assoc] at this
    exact this
  · cases hp
/-- a slice of a row of one's own -/
theorem own_cut {S : Nat → Prop} (h : (Own ek (.slice A n c) xs).P S w) (h1 : i ≤ j) (h2 : j ≤ n) : (Own ek (.slice (cutA A ek.sz c i) (j - i) (c - i)) ((xs.take j).drop i)).P S w := by
  obtain ⟨A', n', c', e, hn, hc, hrow⟩ := h
  simp only [Value.slice.injEq] at e
  obtain ⟨rfl, rfl, rfl⟩ := e
  refine ⟨_, _, _, rfl, by simp; omega, by omega, ?_⟩
  rcases hrow with ⟨rfl, rfl⟩ | ⟨g, o, cur, T, vs, rfl, hS, hg, hr, f, f1, f2, f3⟩
  · left
    simp
  · right
    have hfit := hr.fits
    by_cases hci : c = i
    · subst hci
      have hnil : (xs.take j).drop c = [] := List.drop_eq_nil_of_le (by simp; omega)
      rw [hnil]
      refine ⟨g, o, cur, T, fun _ => [], by simp [cutA], hS, hg, ⟨?_, by simp, fun p x hp => by simp at hp⟩, fun _ _ => False, fun p x hp => by simp at hp, by simp, by simp⟩
      have := hr.room
      rw [Nat.sub_self, Nat.zero_mul]
      omega
    · refine ⟨g, o + i * ek.sz, cur, T, fun p => vs (i + p), by simp [cutA, hci, Addr.add_lit], hS, hg, ⟨?_, by simp; omega, fun p x hp jj u hu => ?_⟩, fun p => f (i + p), fun p x hp => ?_, fun p k hk => f2 _ k hk, fun a b k ha hb => by have := f3 _ _ k ha hb; omega⟩
      · have := hr.room
        have e2 : (c - i) * ek.sz + i * ek.sz = c * ek.sz := by rw [← Nat.add_mul]; congr 1; omega
        omega
      · rw [List.getElem?_drop, List.getElem?_take] at hp
        split at hp
        · have := hr.at_ _ x hp jj u hu
          rw [Nat.add_mul, ← Nat.add_assoc] at this
          exact this
        · cases hp
      · rw [List.getElem?_drop, List.getElem?_take] at hp
        split at hp
        · exact f1 _ x hp
        · cases hp
theorem Sep.own_cut (h : Sep w0 l w) (hq : l[q]? = some (Own ek (.slice A n c) xs)) (h1 : i ≤ j) (h2 : j ≤ n) : Sep w0 (l.set q (Own ek (.slice (cutA A ek.sz c i) (j - i) (c - i)) ((xs.take j).drop i))) w :=
  h.upd hq rfl rfl rfl (Nat.le_refl _) (fun F hF hs => ⟨Res.mono _ (fun k hk => .inl hk) (Sl.own_cut hF h1 h2), fun _ _ _ => rfl⟩)
end

theorem results_tmp3 {P : Program} {fn : Func} {t u z : Nat} (h : fn.results = #[.tmp t, .tmp u, .tmp z]) {a : Act} {w : World} {x y v : Value} (hx : a.tmps[t]? = some x) (hy : a.tmps[u]? = some y) (hv : a.tmps[z]? = some v) : (results fn a.tmps).run P w = .ok (.tuple #[x, y, v]) w := by
  simp [results, h, Array.getD_eq_getD_getElem?, hx, hy, hv]
theorem ret3 {P : Program} {fn : Func} {n : Nat} {L : List (Nat × Value)} {a : Act} {w : World} {t u z : Nat} {x y v : Value} {R : Value → World → Prop} (hres : fn.results = #[.tmp t, .tmp u, .tmp z]) (hF : Fr n L a) (hx : lk L t = some x) (hy : lk L u = some y) (hv : lk L z = some v) (hR : R (.tuple #[x, y, v]) w) : bodyPost P fn (Ret R) .ret a w :=
  ⟨hF.defs, .tuple #[x, y, v], results_tmp3 hres (hF.get _ _ hx) (hF.get _ _ hy) (hF.get _ _ hv), _, rfl, hR⟩

/-! ### structs of numbers -/
def flFs (g : TypeId → Option Nat) : Nat → List Field → Option Nat
  | off, [] => some off
  | off, f :: fs => if f.name == "_" || !(f.offset == off) then none else match g f.type with
    | some k => flFs g (off + k) fs
    | none => none
/-- a struct of numbers: how many -/
def flN (P : Program) : Nat → TypeId → Option Nat
  | 0, _ => none
  | d + 1, t => match P.underlying t with
    | some (.int .i64) => if szB P t = some 1 then some 1 else none
    | some (.struct fs) => if P.stoodInHeld t then none else match flFs (flN P d) 0 fs.toList with
      | some n => if szB P t = some n then some n else none
      | none => none
    | _ => none
/-- the value of so many numbers -/
def flV (P : Program) (t : TypeId) (xs : List Int) : Value := if aggB P t then .agg (xs.map vi).toArray else vi (xs.headD 0)
theorem flN_scal {P : Program} {t : TypeId} (h : P.underlying t = some (.int .i64)) : aggB P t = false ∧ scalB P t = true := by
  unfold aggB scalB; rw [h]; exact ⟨rfl, rfl⟩
theorem flN_agg {P : Program} {t : TypeId} {fs : Array Field} (h : P.underlying t = some (.struct fs)) : aggB P t = true := by
  unfold aggB; rw [h]
theorem run_part {P : Program} {w : World} {d n off : Nat} {t : TypeId} {xs : List Int} (h : flN P d t = some n) (hl : off + n ≤ xs.length) :
    (part t (xs.map vi).toArray off).run P w = .ok (flV P t ((xs.drop off).take n)) w := by
  cases d with
  | zero => simp [flN] at h
  | succ d =>
    unfold flN at h
    split at h
    · rename_i hu
      split at h
      · obtain rfl := Option.some.inj h
        obtain ⟨ha, hs⟩ := flN_scal hu
        have h1 := run_isAgg_false (P := P) (w := w) hs
        have hlt : off < xs.length := by omega
        have e : (xs.drop off).take 1 = [xs[off]] := by rw [List.drop_eq_getElem_cons hlt]; rfl
        simp [part, h1, go_sem, hlt, flV, ha, e]
      · cases h
    · rename_i fs hu
      split at h
      · cases h
      · split at h
        · split at h
          · rename_i m hm hsz
            obtain rfl := Option.some.inj h
            have ha := flN_agg hu
            have h1 := run_isAgg_true (P := P) (w := w) ha
            have h2 := run_sizeOf (P := P) (w := w) hsz
            simp only [part, Sem.run_bind, h1, Result.andThen_ok, if_true, h2, flV, ha]
            simp [List.map_drop, List.map_take, List.take_drop, Nat.add_comm]
          · cases h
        · cases h
    · cases h
theorem run_flN {P : Program} : ∀ (d : Nat) (t : TypeId) (n : Nat) (xs ys : List Int) (w : World), flN P d t = some n → xs.length = n → ys.length = n → (Op.equalIn d t (flV P t xs) (flV P t ys)).run P w = .ok (decide (xs = ys)) w
  | 0, t, n, xs, ys, w, h, _, _ => by simp [flN] at h
  | d + 1, t, n, xs, ys, w, h, hx, hy => by
    have h0 := h
    unfold flN at h
    split at h
    · rename_i hu
      split at h
      · obtain rfl := Option.some.inj h
        obtain ⟨ha, hs⟩ := flN_scal hu
        match xs, ys, hx, hy with
        | [a], [b], _, _ =>
          simp [flV, ha, Op.equalIn, run_underlying hu, go_sem, vi]
          rfl
      · cases h
    · rename_i fs hu
      split at h
      · cases h
      · rename_i hst
        split at h
        · split at h
          · rename_i m hm hsz
            obtain rfl := Option.some.inj h
            have ha := flN_agg hu
            have hf : P.fieldsOf t = fs := by simp [Program.fieldsOf, hu]
            simp only [flV, ha, if_true]
            rw [run_equalIn_struct (P := P) w d t _ _ (by rw [hf]; exact hu) (by simpa using hst), hf]
            have key : ∀ (L : List Field) (off : Nat), flFs (flN P d) off L = some m → (Op.eqFields d (xs.map vi).toArray (ys.map vi).toArray L).run P w = .ok (decide (xs.drop off = ys.drop off)) w := by
              intro L
              induction L with
              | nil =>
                intro off h
                simp only [flFs, Option.some.injEq] at h
                subst h
                simp [Op.eqFields, List.drop_eq_nil_of_le (Nat.le_of_eq hx), List.drop_eq_nil_of_le (Nat.le_of_eq hy)]
              | cons f L ih =>
                intro off h
                simp only [flFs] at h
                split at h
                · cases h
                · rename_i hnm
                  split at h
                  · rename_i k hk
                    simp only [Bool.or_eq_true, not_or, Bool.not_eq_true', Bool.not_eq_false, beq_iff_eq, Bool.not_eq_true] at hnm
                    obtain ⟨hn1, hn2⟩ := hnm
                    have hle : off + k ≤ m := flFs_le _ _ _ _ h
                    have hn1' : f.name ≠ "_" := by simpa using hn1
                    rw [Op.eqFields]
                    have hn2' : f.offset = off := by simpa using hn2
                    rw [hn2']
                    simp only [if_pos hn1', Sem.run_bind, run_part hk (by omega : off + k ≤ xs.length), run_part hk (by omega : off + k ≤ ys.length), Result.andThen_ok, run_flN d f.type k ((xs.drop off).take k) ((ys.drop off).take k) w hk (by simp; omega) (by simp; omega)]
                    have ex : xs.drop off = (xs.drop off).take k ++ xs.drop (off + k) := by rw [← List.drop_drop, List.take_append_drop]
                    have ey : ys.drop off = (ys.drop off).take k ++ ys.drop (off + k) := by rw [← List.drop_drop, List.take_append_drop]
                    by_cases hq : (xs.drop off).take k = (ys.drop off).take k
                    · have := ih (off + k) h
                      simp only [hq, decide_true, Bool.not_true, Bool.false_eq_true, if_false]
                      rw [this]
                      congr 1
                      rw [ex, ey, hq]
                      simp
                    · have hne : ¬ xs.drop off = ys.drop off := fun e => hq (by rw [e])
                      simp [hq, hne]
                  · cases h
            have := key fs.toList 0 hm
            simpa using this
          · cases h
        · cases h
    · cases h
where
  flFs_le (g : TypeId → Option Nat) : ∀ (L : List Field) (off m : Nat), flFs g off L = some m → off ≤ m
    | [], off, m, h => by simp [flFs] at h; omega
    | f :: L, off, m, h => by
      simp only [flFs] at h
      split at h
      · cases h
      · split at h
        · have := flFs_le g L _ _ h
          omega
        · cases h
section
variable {P : Program} {ρ : Operand → Value} {w : World} {D : Option Tmp} {ty : TypeId} {ps : String} {af : Array Edge} {gd : Option (Nat × Bool)} {t t' : TypeId} {x y : Operand} {n : Nat}
theorem run_eqlF {as bs : List Int} (ht : flN P 10000 t = some n) (ha : aggB P t = true) (hl : as.length = n) (hl' : bs.length = n) : (Op.equal t (.agg (as.map vi).toArray) (.agg (bs.map vi).toArray)).run P w = .ok (decide (as = bs)) w := by
  have := run_flN (P := P) 10000 t n as bs w ht hl hl'
  simp only [flV, ha, if_true] at this
  exact this
theorem r_eqlF (as bs : List Int) (ht : flN P 10000 t = some n) (ha : aggB P t = true) (hg : P.eqGuardType P.depth t = false) (hl : as.length = n) (hl' : bs.length = n) (hx : ρ x = .agg (as.map vi).toArray) (hy : ρ y = .agg (bs.map vi).toArray) :
    (execOp ρ ⟨D, .binOp .eql t x y t', ty, ps, af, gd⟩).run P w = .ok (.value (.bool (decide (as = bs)))) w := by
  have := run_eqlF (P := P) (w := w) ht ha hl hl'
  have hgd := run_eqGuard_agg (P := P) w .eql t x y (as.map vi).toArray (bs.map vi).toArray hg
  simp only [execOp, hx, hy, binOp]
  simp [this, hgd]
theorem r_neqF (as bs : List Int) (ht : flN P 10000 t = some n) (ha : aggB P t = true) (hg : P.eqGuardType P.depth t = false) (hl : as.length = n) (hl' : bs.length = n) (hx : ρ x = .agg (as.map vi).toArray) (hy : ρ y = .agg (bs.map vi).toArray) :
    (execOp ρ ⟨D, .binOp .neq t x y t', ty, ps, af, gd⟩).run P w = .ok (.value (.bool (!decide (as = bs)))) w := by
  have := run_eqlF (P := P) (w := w) ht ha hl hl'
  have hgd := run_eqGuard_agg (P := P) w .neq t x y (as.map vi).toArray (bs.map vi).toArray hg
  simp only [execOp, hx, hy, binOp]
  simp [this, hgd]
theorem r_bits {op : BinOp} {u v r : Value} (hx : ρ x = u) (hy : ρ y = v) (hg : eqGuard op t x y u v = pure ()) (hr : (binOp op t u v).run P w = .ok r w) : (execOp ρ ⟨D, .binOp op t x y t', ty, ps, af, gd⟩).run P w = .ok (.value r) w := by
  simp only [execOp, hx, hy, hg]
  simp [hr]
theorem r_neqs {a b : ByteArray} (hx : ρ x = .string a) (hy : ρ y = .string b) : (execOp ρ ⟨D, .binOp .neq t x y t', ty, ps, af, gd⟩).run P w = .ok (.value (.bool (!(a.data.toList == b.data.toList)))) w := by
  simp [execOp, hx, hy, binOp, Op.stringOp, eqGuard, ByteArray.toList_eq, go_sem]
theorem r_eqls {a b : ByteArray} (hx : ρ x = .string a) (hy : ρ y = .string b) : (execOp ρ ⟨D, .binOp .eql t x y t', ty, ps, af, gd⟩).run P w = .ok (.value (.bool (a.data.toList == b.data.toList))) w := by
  simp [execOp, hx, hy, binOp, Op.stringOp, eqGuard, ByteArray.toList_eq, go_sem]
/-- from one integer kind to another: the number stays -/
theorem r_conv {k k' : IntKind} {m : Int} (ht : P.underlying t = some (.int k)) (ht' : P.underlying t' = some (.int k')) (hx : ρ x = .int k m) (hm : k'.wrap m = m) : (execOp ρ ⟨D, .convert t t' x, ty, ps, af, gd⟩).run P w = .ok (.value (.int k' m)) w := by
  simp [execOp, hx, convert, run_underlying ht, run_underlying ht', Conv.intToInt, hm, go_sem]
theorem wrap_u64 {m : Int} (h0 : 0 ≤ m) (h1 : m < 18446744073709551616) : IntKind.u64.wrap m = m := by
  simp [IntKind.wrap, IntKind.bits, IntKind.signed, IntKind.min]
  omega
end
section
variable {P : Program} {ops : Array Oper} {Q : Exit → Act → World → Prop} {a : Act} {w w0 : World} {rest : List Oper} {n d : Nat} {L : List (Nat × Value)} {l : List Res} {v u : Value}
variable {ty : TypeId} {ps : String} {af : Array Edge} {D : Option Tmp} {gd : Option (Nat × Bool)} {t : TypeId}
/-- a struct literal's parts -/
def pevB (a : Act) : List (Nat × Operand) → List (Nat × Value) → Prop
  | [], [] => True
  | (i, x) :: ps, (j, u) :: us => i = j ∧ a.eval x = u ∧ pevB a ps us
  | _, _ => False
theorem pevB_map : ∀ (ps : List (Nat × Operand)) (us : List (Nat × Value)), pevB a ps us → ps.map (fun p => (p.1, a.eval p.2)) = us
  | [], [], _ => rfl
  | [], _ :: _, h => h.elim
  | _ :: _, [], h => h.elim
  | (i, x) :: ps, (j, u) :: us, ⟨h1, h2, h3⟩ => by
    subst h1; subst h2
    simp only [List.map_cons, pevB_map ps us h3]
theorem r_build {parts : Array (Nat × Operand)} {us : List (Nat × Value)} {cs : List Value} (hb : P.built t us = some cs.toArray) (hp : pevB a parts.toList us) : (execOp a.eval ⟨D, .build t parts, ty, ps, af, gd⟩).run P w = .ok (.value (.agg cs.toArray)) w := by
  have h := pevB_map _ _ hp
  have h2 : (parts.map fun (i, x) => (i, a.eval x)).toList = us := by rw [Array.toList_map]; exact h
  have := run_build (P := P) w t (parts.map fun (i, x) => (i, a.eval x)) cs.toArray (by rw [h2]; exact hb)
  simp [execOp, this]

/-- a number is stored into a row of one's own -/
theorem wl_istore {T : TypeId} {X Y : Operand} {q m c g o p : Nat} {i : Int} {xs : List Int} {z : Int} (hF : Fr n L a) (hS : Sep w0 l w) (hq : l[q]? = some (Own intEK v xs)) (hv : v = .slice (some ⟨g, o, none⟩) m c) (h0 : 0 ≤ i) (h1 : i < xs.length)
    (hsz : szB P T = some 1) (hp : a.eval X = .pointer (some ⟨g, p, none⟩)) (hpe : p = o + i.toNat * 1) (hy : a.eval Y = vi z) (k : ∀ w', Sep w0 (l.set q (Own intEK v (xs.set i.toNat z))) w' → wpList P ops Q rest a w') : wpList P ops Q (⟨none, .store T X Y, ty, ps, af, none⟩ :: rest) a w :=
  wl_ostore (ek := intEK) (i := i.toNat) (j := 0) z hF hS hq hv (at0_get h0 h1) (Nat.zero_lt_one) (fun _ => rfl) (fun _ => rfl) hsz hp (by rw [hpe]; rfl) hy rfl k
theorem wl_tstore {T : TypeId} {X Y : Operand} {q m c g o p : Nat} {i : Int} {xs : List Bool} {z : Bool} (hF : Fr n L a) (hS : Sep w0 l w) (hq : l[q]? = some (Own boolEK v xs)) (hv : v = .slice (some ⟨g, o, none⟩) m c) (h0 : 0 ≤ i) (h1 : i < xs.length)
    (hsz : szB P T = some 1) (hp : a.eval X = .pointer (some ⟨g, p, none⟩)) (hpe : p = o + i.toNat * 1) (hy : a.eval Y = .bool z) (k : ∀ w', Sep w0 (l.set q (Own boolEK v (xs.set i.toNat z))) w' → wpList P ops Q rest a w') : wpList P ops Q (⟨none, .store T X Y, ty, ps, af, none⟩ :: rest) a w :=
  wl_ostore (ek := boolEK) (i := i.toNat) (j := 0) z hF hS hq hv (at0_get h0 h1) (Nat.zero_lt_one) (fun _ => rfl) (fun _ => rfl) hsz hp (by rw [hpe]; rfl) hy rfl k
/-- a row of one's own is stored into a row of rows -/
theorem wl_sput {α : Type} {ek : EK α} {T : TypeId} {X Y : Operand} {q m c g o p : Nat} {i : Int} {xs : List (List α)} {y : List α} {s : Slv} (hF : Fr n L a) (hS : Sep w0 (Own ek (sv s) y :: l) w) (hq : l[q]? = some (Own (sliceEK ek) v xs)) (hv : v = .slice (some ⟨g, o, none⟩) m c) (h0 : 0 ≤ i) (h1 : i < xs.length)
    (hsz : szB P T = some 1) (hp : a.eval X = .pointer (some ⟨g, p, none⟩)) (hpe : p = o + i.toNat * 1) (hy : a.eval Y = u) (hu : u = sv s) (k : ∀ w', Sep w0 (l.set q (Own (sliceEK ek) v (xs.set i.toNat y))) w' → wpList P ops Q rest a w') : wpList P ops Q (⟨none, .store T X Y, ty, ps, af, none⟩ :: rest) a w := by
  subst hu
  exact wl_oput (ek := sliceEK ek) (i := i.toNat) (x' := y) (vs' := [s]) hF hS.own_part hq hv (at0_get h0 h1) hsz hp (by rw [hpe]; rfl) hy rfl k
/-- make, as an operation that makes memory -/
theorem r_make0 {α : Type} (ek : EK α) {T : TypeId} {X : Operand} {m b : Nat} {zs : List Value} {gd : Option (Nat × Bool)} (x : α) (vs : List Slv) (hm : mkB P T = some (zs, ek.sz, b)) (hz : zs = ek.cells x vs)
    (hin : ∀ w, Sat (ek.inner x vs) (fun _ => False) w) (hx : a.eval X = .int .i64 (m : Int)) (hb : b * m ≤ 281474976710656) (hmm : m ≤ maxLen) :
    ∃ (g : Nat) (w' : World), (execOp a.eval ⟨D, .makeSlice T X X, ty, ps, af, gd⟩).run P w = .ok (.value (.slice (some ⟨g, 0, none⟩) m m)) w' ∧ Sep w [Own ek (.slice (some ⟨g, 0, none⟩) m m) (List.replicate m x)] w' := by
  obtain ⟨e, i, z, he, hi, hzz, hzs, hsz, hby⟩ := mkB_parts hm
  obtain ⟨w', hrun, hown, hg⟩ := run_make_full (P := P) w w.heap.size T e i z ek.sz he hi hzz hsz .i64 .i64 m (by rw [hby]; exact hb) hmm (Nat.le_refl _)
  refine ⟨w.heap.size, w', r_make hx hrun, (Sep.refl w).new ⟨hg.os, hg.tape, hg.output, hg.size, fun k hk => hg.block k hk (by simp)⟩ ?_⟩
  obtain ⟨hlen, hown⟩ := hown
  rcases hown with ⟨h, _⟩ | ⟨g, cap, cur, hv, hbase, hh, h1, h2, h3, h4⟩
  · simp at h
  · simp only [Value.slice.injEq, Option.some.injEq, Addr.mk.injEq] at hv
    obtain ⟨⟨rfl, _, _⟩, _, rfl⟩ := hv
    have hlt : w.heap.size < w'.heap.size := (Array.getElem?_eq_some_iff.1 hh).1
    refine ⟨_, _, _, rfl, by simp, h2, .inr ⟨w.heap.size, 0, cur, e, fun _ => vs, rfl, ⟨Nat.le_refl _, hlt⟩, hh, ⟨by omega, by simp, ?_⟩, fun _ _ => False, ?_, by simp, by simp⟩⟩
    · intro i' x' hx' j u' hu
      rw [List.getElem?_replicate] at hx'
      split at hx'
      · rename_i hi'
        obtain rfl := Option.some.inj hx'
        have hzl : z.cells.size = ek.sz := by
          have := congrArg List.length hzs
          rw [hz, ek.len] at this
          simpa using this
        have := made_at (m := m) (i := i') hzl (by rw [hzs, hz]; exact hu) hi'
        rw [← h4] at this
        rw [List.getElem?_take] at this
        split at this
        · simpa using this
        · simp at this
      · simp at hx'
    · intro i' x' hx'
      rw [List.getElem?_replicate] at hx'
      split at hx'
      · obtain rfl := Option.some.inj hx'
        exact hin w'
      · simp at hx'
/-- the first cells of a row that is read -/
theorem Rd.cellsTake {α : Type} {sz : Nat} {enc : α → List Value} {hl : ∀ x, (enc x).length = sz} {h1 : ∀ x u, u ∈ enc x → u.oneCell' = true} {xs ys : List α} {g o N c m : Nat} (h : (flatEK sz enc hl h1).Rd w (.slice (some ⟨g, o, none⟩) N c) xs) (e : ys.take m = xs.take m) :
    ∀ p u, (flatC enc (ys.take m))[p]? = some u → w.cell? ⟨g, o + p, none⟩ = some u := by
  intro p u hp
  obtain ⟨A, c', e1, _, hc⟩ := Rd.cells h
  simp only [Value.slice.injEq] at e1
  obtain ⟨rfl, _, _⟩ := e1
  refine hc _ _ rfl p u ?_
  rw [e] at hp
  have : flatC enc xs = flatC enc (xs.take m) ++ flatC enc (xs.drop m) := by
    unfold flatC
    rw [← List.flatMap_append, List.take_append_drop]
  rw [this, List.getElem?_append_left (List.getElem?_eq_some_iff.1 hp).1]
  exact hp
/-- append to a row of no room: a row of its own -/
theorem run_append0 {α : Type} {sz b : Nat} {enc : α → List Value} {hl : ∀ x, (enc x).length = sz} {h1 : ∀ x u, u ∈ enc x → u.oneCell' = true} {T : TypeId} {zs : List Value} {A : Option Addr} {ys : List α} (hu : (flatEK sz enc hl h1).Rd w u ys) (hm : mkB P T = some (zs, sz, b)) (hzl : zs.length = sz)
    (hb : ys.length * b ≤ 140737488355328) (hn : ys.length ≤ maxLen) :
    ∃ (s : Slv) (w' : World), (Builtin.append_ #[T, T] ty #[.slice A 0 0, u]).run P w = .ok (sv s) w' ∧ Sep w [Own (flatEK sz enc hl h1) (sv s) ys] w' := by
  obtain ⟨e, i, z, he, hi, hz, hzs, hsz, hby⟩ := mkB_parts hm
  have hys : 0 < ys.length → ∃ g o m c, u = .slice (some ⟨g, o, none⟩) m c := fun hp => by
    obtain ⟨g, o, m, c, hv, _⟩ := Rd.idxF hu (i := 0) (List.getElem?_eq_getElem hp)
    exact ⟨g, o, m, c, hv⟩
  obtain ⟨A', c, w', hrun, e1, e2, e3, e4, hown, hk⟩ := run_append_any (P := P) (ty := ty) (v := .slice A 0 0) (S := fun _ => False) (xs := []) he hi hz (by rw [← hzl, ← hzs]; simp) hsz hby ⟨A, 0, 0, rfl, rfl, Nat.zero_le _, .inl ⟨rfl, rfl⟩⟩ hu hys (by simpa using hb) (by simpa using hn)
  refine ⟨(A', ([] : List α).length + ys.length, c), w', hrun, ⟨e1, e2, e3, e4, fun k hk' => hk k hk' (fun h => h)⟩, ?_⟩
  refine Sat.cons (Sat.nil (fun _ => False) w') hown (fun k hk => ?_) (fun k hk => hk.elim) (fun k _ hk => hk)
  rcases hk with hk | hk
  · exact hk.elim
  · exact hk
theorem r_append0 {α : Type} {sz b : Nat} {enc : α → List Value} {hl : ∀ x, (enc x).length = sz} {h1 : ∀ x u, u ∈ enc x → u.oneCell' = true} {T : TypeId} {zs : List Value} {A : Option Addr} {ys : List α} {X Y : Operand} {gd : Option (Nat × Bool)} (hu : (flatEK sz enc hl h1).Rd w u ys) (hm : mkB P T = some (zs, sz, b)) (hzl : zs.length = sz)
    (hb : ys.length * b ≤ 140737488355328) (hn : ys.length ≤ maxLen) (hX : a.eval X = .slice A 0 0) (hY : a.eval Y = u) :
    ∃ (s : Slv) (w' : World), (execOp a.eval ⟨D, .call ⟨.builtin .append, #[X, Y], #[T, T]⟩, ty, ps, af, gd⟩).run P w = .ok (.value (sv s)) w' ∧ Sep w [Own (flatEK sz enc hl h1) (sv s) ys] w' := by
  obtain ⟨s, w', h, hS⟩ := run_append0 (P := P) (ty := ty) (A := A) hu hm hzl hb hn
  exact ⟨s, w', r_append hX hY h, hS⟩
theorem wl_append0 {α : Type} {sz b : Nat} {enc : α → List Value} {hl : ∀ x, (enc x).length = sz} {h1 : ∀ x u, u ∈ enc x → u.oneCell' = true} {T : TypeId} {zs : List Value} {A : Option Addr} {ys : List α} {X Y : Operand} (hF : Fr n L a) (hS : Sep w0 l w) (hdn : Nat.ble (d + 1) n = true) (hu : (flatEK sz enc hl h1).Rd w u ys) (hm : mkB P T = some (zs, sz, b)) (hzl : zs.length = sz)
    (hb : ys.length * b ≤ 140737488355328) (hn : ys.length ≤ maxLen) (hX : a.eval X = .slice A 0 0) (hY : a.eval Y = u)
    (k : ∀ (s : Slv) w' a, Sep w0 (Own (flatEK sz enc hl h1) (sv s) ys :: l) w' → Fr n ((d, sv s) :: L) a → wpList P ops Q rest a w') :
    wpList P ops Q (⟨some d, .call ⟨.builtin .append, #[X, Y], #[T, T]⟩, ty, ps, af, none⟩ :: rest) a w := by
  obtain ⟨s, w', h, hS'⟩ := r_append0 (P := P) (ty := ty) (ps := ps) (af := af) (D := some d) (gd := none) hu hm hzl hb hn hX hY
  exact wl hF rfl rfl hdn h (fun a hF => k s w' a (by simpa using hS.add hS') hF)

/-- copy into a row of one's own, from somewhere that is read: the row's cells from place i on -/
theorem run_copy_own {α : Type} {sz b : Nat} {enc : α → List Value} {hl : ∀ x, (enc x).length = sz} {h1 : ∀ x u, u ∈ enc x → u.oneCell' = true} {T T' : TypeId} {q i m g o N C dn dc sn sc : Nat} {B : Option Addr} {xs ys : List α} (hS : Sep w0 l w) (ht : slB P T = some (sz, b))
    (hq : l[q]? = some (Own (flatEK sz enc hl h1) (.slice (some ⟨g, o, none⟩) N C) xs)) (hdn : dn = xs.length - i) (hi : i ≤ xs.length) (hm : m = min sn dn)
    (hB : 0 < m → ∃ bb ob, B = some ⟨bb, ob, none⟩ ∧ ∀ p u, (flatC enc (ys.take m))[p]? = some u → w.cell? ⟨bb, ob + p, none⟩ = some u) (hys : sn = ys.length) :
    ∃ w', (Builtin.copy_ #[T, T'] ty #[.slice (some ⟨g, o + i * sz, none⟩) dn dc, .slice B sn sc]).run P w = .ok (.int .i64 (m : Int)) w' ∧
      Sep w0 (l.set q (Own (flatEK sz enc hl h1) (.slice (some ⟨g, o, none⟩) N C) (xs.take i ++ ys.take m ++ xs.drop (i + m)))) w' := by
  obtain ⟨e, he, hs⟩ := slB_parts (w := w) ht
  have hmy : (ys.take m).length = m := by simp; omega
  have hfirst : (Builtin.firstCells sz m (.slice B sn sc)).run P w = .ok (flatC enc (ys.take m)).toArray w := by
    rcases Nat.eq_zero_or_pos m with h0 | hp
    · subst h0
      cases B with
      | none => simp [run_firstCells_none, flatC]
      | some ad =>
        have := run_firstCells_some (P := P) w sz 0 ad sn sc [] (by simp) (fun j v h => by simp at h)
        simpa [flatC] using this
    · obtain ⟨bb, ob, rfl, hc⟩ := hB hp
      exact run_firstCells_some (P := P) w sz m ⟨bb, ob, none⟩ sn sc _ (by rw [flatC_len hl, hmy]) (fun j v h => by rw [Addr.add_lit]; exact hc j v h)
  have hone : ∀ x ∈ flatC enc (ys.take m), x.oneCell' = true := fun x hx => by
    simp only [flatC, List.mem_flatMap] at hx
    obtain ⟨y, _, hy⟩ := hx
    exact h1 y x hy
  obtain ⟨f, g1, g2, g3⟩ := hS.sat
  obtain ⟨A, n', c', ev, hn, hc, hrow⟩ := g1 q _ hq
  simp only [Value.slice.injEq] at ev
  obtain ⟨rfl, rfl, rfl⟩ := ev
  by_cases hx0 : xs = []
  · subst hx0
    obtain rfl : m = 0 := by simp at hdn; omega
    have hmn : Nat.min sn dn = 0 := hm.symm
    refine ⟨w, ?_, ?_⟩
    · simp [Builtin.copy_, run_underlying he, Builtin.lenOf, hs, hmn, hfirst, goInt, flatC, storeCells]
    · simp only [List.take_zero, List.take_nil, List.drop_nil, List.append_nil]
      rw [show l.set q (Own (flatEK sz enc hl h1) (.slice (some ⟨g, o, none⟩) N C) []) = l from by obtain ⟨h1, h2⟩ := List.getElem?_eq_some_iff.1 hq; rw [← h2, List.set_getElem_self]]
      exact hS
  rcases hrow with ⟨_, h⟩ | ⟨g', o', cur, T0, vs, eA, hSg, hg, hr, _⟩
  · exact (hx0 h).elim
  simp only [Option.some.injEq, Addr.mk.injEq] at eA
  obtain ⟨rfl, rfl, _⟩ := eA
  have hroom : o + i * sz + (flatC enc (ys.take m)).length ≤ cur.size := by
    have h1 := hr.room
    have h2 := hr.fits
    rw [flatC_len hl, hmy]
    have : (i + m) * sz ≤ C * sz := Nat.mul_le_mul_right _ (by omega)
    rw [Nat.add_mul] at this
    simp only [flatEK] at h1
    omega
  have hst := run_storeCells_at P g (o + i * sz) T0 (flatC enc (ys.take m)) 0 cur w hg (by simpa using hroom) hone
  simp only [Nat.add_zero] at hst
  refine ⟨w.setRow g (cur.toList.take (o + i * sz) ++ flatC enc (ys.take m) ++ cur.toList.drop (o + i * sz + (flatC enc (ys.take m)).length)).toArray, ?_, hS.upd hq rfl rfl rfl (by simp [World.setRow]) (fun F hF hs => ?_)⟩
  · have hmn : Nat.min sn dn = m := hm.symm
    simp [Builtin.copy_, run_underlying he, Builtin.lenOf, hs, hmn, hfirst, hst, goInt]
  · obtain ⟨A, n', c', ev, hn, hc, hrow⟩ := hF
    simp only [Value.slice.injEq] at ev
    obtain ⟨rfl, rfl, rfl⟩ := ev
    rcases hrow with ⟨_, h⟩ | ⟨g', o', cur', T0', vs, eA, hSg, hg', hr, f', f1, f2, f3⟩
    · exact (hx0 h).elim
    simp only [Option.some.injEq, Addr.mk.injEq] at eA
    obtain ⟨rfl, rfl, _⟩ := eA
    rw [hg] at hg'
    simp only [Option.some.injEq, Obj.cells.injEq] at hg'
    obtain ⟨rfl, rfl, _⟩ := hg'
    have hlen : (xs.take i ++ ys.take m ++ xs.drop (i + m)).length = xs.length := by simp; omega
    refine ⟨⟨_, _, _, rfl, by rw [hlen]; exact hn, hc, .inr ⟨g, o, _, T0, fun _ => [], rfl, .inl hSg, heap_setRow_at hg, ⟨?_, by rw [hlen]; exact hr.fits, fun i' x hx j u hu => ?_⟩, fun _ _ => False, fun _ _ _ => Sat.nil _ _, by simp, by simp⟩⟩, fun k hk hn => ?_⟩
    · have := hr.room
      simp
      omega
    · simp only [flatEK] at hu ⊢
      have hj : j < sz := by
        have := (List.getElem?_eq_some_iff.1 hu).1
        rwa [hl] at this
      have hi' := (List.getElem?_eq_some_iff.1 hx).1
      rw [hlen] at hi'
      have hcut : ∀ p, (p < o + i * sz ∨ o + i * sz + m * sz ≤ p) → (cur.toList.take (o + i * sz) ++ flatC enc (ys.take m) ++ cur.toList.drop (o + i * sz + (flatC enc (ys.take m)).length)).toArray[p]? = cur[p]? := fun p hp => by
        rw [List.getElem?_toArray]
        have hll : (flatC enc (ys.take m)).length = m * sz := by rw [flatC_len hl, hmy]
        rcases hp with hp | hp
        · rw [List.append_assoc, List.getElem?_append_left (by simp; omega), List.getElem?_take, if_pos hp]
          simp
        · rw [List.getElem?_append_right (by simp; omega), List.getElem?_drop]
          simp only [List.length_append, List.length_take, Array.length_toList]
          rw [show o + i * sz + (flatC enc (ys.take m)).length + (p - (min (o + i * sz) cur.size + (flatC enc (ys.take m)).length)) = p by omega]
          simp
      by_cases ha : i' < i
      · have hx' : xs[i']? = some x := by
          rw [List.append_assoc, List.getElem?_append_left (by simp; omega), List.getElem?_take, if_pos ha] at hx
          exact hx
        rw [hcut _ (.inl ?_)]
        · exact hr.at_ i' x hx' j u hu
        · have : (i' + 1) * sz ≤ i * sz := Nat.mul_le_mul_right _ ha
          rw [Nat.add_mul] at this
          omega
      · by_cases hb : i' < i + m
        · have hx' : (ys.take m)[i' - i]? = some x := by
            rw [List.append_assoc, List.getElem?_append_right (by simp; omega), List.getElem?_append_left (by simp; omega)] at hx
            simpa [Nat.min_eq_left hi] using hx
          have h2 := flatC_at hl _ _ x j u hx' hu
          rw [List.getElem?_toArray, List.append_assoc, List.getElem?_append_right (by simp; have : i * sz ≤ i' * sz := Nat.mul_le_mul_right _ (by omega); omega), List.getElem?_append_left]
          · simp only [List.length_take, Array.length_toList]
            have e2 : i' * sz = i * sz + (i' - i) * sz := by rw [← Nat.add_mul]; congr 1; omega
            rw [show o + i' * sz + j - min (o + i * sz) cur.size = (i' - i) * sz + j by omega]
            exact h2
          · have h3 := (List.getElem?_eq_some_iff.1 h2).1
            simp only [List.length_take, Array.length_toList]
            have e2 : i' * sz = i * sz + (i' - i) * sz := by rw [← Nat.add_mul]; congr 1; omega
            omega
        · have hx' : xs[i']? = some x := by
            rw [List.getElem?_append_right (by simp; omega), List.getElem?_drop] at hx
            simp only [List.length_append, List.length_take] at hx
            rw [show i + m + (i' - (min i xs.length + min m ys.length)) = i' by omega] at hx
            exact hx
          rw [hcut _ (.inr ?_)]
          · exact hr.at_ i' x hx' j u hu
          · have : (i + m) * sz ≤ i' * sz := Nat.mul_le_mul_right _ (by omega)
            rw [Nat.add_mul] at this
            omega
    · simp only [World.setRow, Array.getElem?_modify]
      rw [if_neg (fun e => hn (by rw [← e]; exact hSg))]
theorem r_copy {ρ : Operand → Value} {T T' : TypeId} {X Y : Operand} {u v r : Value} {w' : World} (hX : ρ X = v) (hY : ρ Y = u) (hr : (Builtin.copy_ #[T, T'] ty #[v, u]).run P w = .ok r w') :
    (execOp ρ ⟨D, .call ⟨.builtin .copy, #[X, Y], #[T, T']⟩, ty, ps, af, gd⟩).run P w = .ok (.value r) w' := by
  simp [execOp, resolve, invoke, builtin, hX, hY, hr]
end
end Go.Proofs.YtifhfodphoeeoaaGreat.Sl
