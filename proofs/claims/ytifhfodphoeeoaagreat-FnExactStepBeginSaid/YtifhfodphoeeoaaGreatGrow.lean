/- New rows and rows that grow: make, a literal of one element, append. No program in sight. -/
import Derived.Test.YtifhfodphoeeoaaGreatOwn
import Derived.Laws.OwnMore
import Derived.Deep.Upon
namespace Go.Proofs.YtifhfodphoeeoaaGreat.Sl
open Go Go.RowKit
set_option linter.unusedVariables false
set_option linter.unusedSimpArgs false

/-- a slice type: its element's zero cells, cells, bytes -/
def mkB (P : Program) (t : TypeId) : Option (List Value × Nat × Nat) :=
  match P.underlying t with
  | some (.slice e) => (P.info? e).bind fun i => i.zero.map fun z => (z.cells.toList, i.size, i.bytes)
  | _ => none
theorem mkB_parts {P : Program} {t : TypeId} {zs : List Value} {sz b : Nat} (h : mkB P t = some (zs, sz, b)) : ∃ e i z, P.underlying t = some (.slice e) ∧ P.info? e = some i ∧ i.zero = some z ∧ z.cells.toList = zs ∧ i.size = sz ∧ i.bytes = b := by
  unfold mkB at h
  split at h
  · rename_i e he
    obtain ⟨i, hi, h⟩ := Option.bind_eq_some_iff.1 h
    obtain ⟨z, hz, h⟩ := Option.map_eq_some_iff.1 h
    simp only [Prod.mk.injEq] at h
    exact ⟨e, i, z, he, hi, hz, h.1, h.2.1, h.2.2⟩
  · simp at h

theorem made_at {zs : Array Value} {sz m i j : Nat} {u : Value} (hz : zs.size = sz) (hu : zs.toList[j]? = some u) (hi : i < m) : (madeCells zs (m * sz)).toList[i * sz + j]? = some u := by
  have hj : j < sz := by
    have := (List.getElem?_eq_some_iff.1 hu).1
    simpa [hz] using this
  have hlt : i * sz + j < m * sz := by
    calc i * sz + j < i * sz + sz := by omega
      _ = (i + 1) * sz := by rw [Nat.add_mul, Nat.one_mul]
      _ ≤ m * sz := Nat.mul_le_mul_right _ hi
  have hmod : (i * sz + j) % sz = j := by rw [Nat.mul_comm, Nat.mul_add_mod, Nat.mod_eq_of_lt hj]
  simp only [madeCells, Array.toList_map, List.getElem?_map]
  rw [show (Array.range (m * sz)).toList[i * sz + j]? = some (i * sz + j) by simp [hlt]]
  simp only [Option.map_some, hz, hmod]
  have : zs[j]? = some u := by simpa using hu
  obtain ⟨h1, h2⟩ := Array.getElem?_eq_some_iff.1 this
  rw [getElem!_pos zs j h1, h2]

section
variable {P : Program} {ops : Array Oper} {Q : Exit → Act → World → Prop} {a : Act} {w w0 : World} {rest : List Oper} {n d : Nat} {L : List (Nat × Value)} {l : List Res} {v u : Value}
variable {ty : TypeId} {ps : String} {af : Array Edge}

theorem r_make {ρ : Operand → Value} {D : Option Tmp} {gd : Option (Nat × Bool)} {T : TypeId} {X : Operand} {m : Int} {v : Value} {w' : World} (hx : ρ X = .int .i64 m) (hr : (Instr.makeSlice T (.int .i64 m) (.int .i64 m)).run P w = .ok v w') :
    (execOp ρ ⟨D, .makeSlice T X X, ty, ps, af, gd⟩).run P w = .ok (.value v) w' := by
  simp [execOp, hx, hr]
theorem heap_setRow_at {g : Nat} {cur cs : Array Value} {T : TypeId} {fz : Nat × Nat} (h : w.heap[g]? = some (.cells cur T fz)) : (w.setRow g cs).heap[g]? = some (.cells cs T fz) := by
  simp [World.setRow, Array.getElem?_modify, h]
theorem r_append {ρ : Operand → Value} {D : Option Tmp} {gd : Option (Nat × Bool)} {T T' : TypeId} {X Y : Operand} {u v r : Value} {w' : World} (hX : ρ X = v) (hY : ρ Y = u) (hr : (Builtin.append_ #[T, T'] ty #[v, u]).run P w = .ok r w') :
    (execOp ρ ⟨D, .call ⟨.builtin .append, #[X, Y], #[T, T']⟩, ty, ps, af, gd⟩).run P w = .ok (.value r) w' := by
  simp [execOp, resolve, invoke, builtin, hX, hY, hr]
theorem wl_make {α : Type} (ek : EK α) {T : TypeId} {X : Operand} {m b : Nat} {zs : List Value} (x : α) (vs : List Slv) (hF : Fr n L a) (hS : Sep w0 l w) (hdn : Nat.ble (d + 1) n = true) (hm : mkB P T = some (zs, ek.sz, b)) (hz : zs = ek.cells x vs)
    (hin : ∀ w, Sat (ek.inner x vs) (fun _ => False) w) (hx : a.eval X = .int .i64 (m : Int)) (hb : b * m ≤ 281474976710656) (hmm : m ≤ maxLen)
    (k : ∀ g w' a, Sep w0 (Own ek (.slice (some ⟨g, 0, none⟩) m m) (List.replicate m x) :: l) w' → Fr n ((d, .slice (some ⟨g, 0, none⟩) m m) :: L) a → wpList P ops Q rest a w') : wpList P ops Q (⟨some d, .makeSlice T X X, ty, ps, af, none⟩ :: rest) a w := by
  obtain ⟨e, i, z, he, hi, hzz, hzs, hsz, hby⟩ := mkB_parts hm
  obtain ⟨w', hrun, hown, hg⟩ := run_make_full (P := P) w w.heap.size T e i z ek.sz he hi hzz hsz .i64 .i64 m (by rw [hby]; exact hb) hmm (Nat.le_refl _)
  refine wl (w' := w') (v := .slice (some ⟨w.heap.size, 0, none⟩) m m) hF rfl rfl hdn (r_make hx hrun) (fun a hF => k _ _ _ ?_ hF)
  refine hS.new ⟨hg.os, hg.tape, hg.output, hg.size, fun k hk => hg.block k hk (by simp)⟩ ?_
  obtain ⟨hlen, hown⟩ := hown
  rcases hown with ⟨h, _⟩ | ⟨g, cap, cur, hv, hbase, hh, h1, h2, h3, h4⟩
  · simp at h
  · simp only [Value.slice.injEq, Option.some.injEq, Addr.mk.injEq] at hv
    obtain ⟨⟨rfl, _, _⟩, _, rfl⟩ := hv
    have hlt : w.heap.size < w'.heap.size := (Array.getElem?_eq_some_iff.1 hh).1
    refine ⟨_, _, _, rfl, by simp, h2, .inr ⟨w.heap.size, 0, cur, e, fun _ => vs, rfl, ⟨Nat.le_refl _, hlt⟩, hh, ⟨by omega, by simp, ?_⟩, fun _ _ => False, ?_, by simp, by simp⟩⟩
    · intro i' x' hx' j u' hu
      rw [List.getElem?_replicate] at hx'
      split at hx'
      · rename_i hi'
        obtain rfl := Option.some.inj hx'
        have hzl : z.cells.size = ek.sz := by
          have := congrArg List.length hzs
          rw [hz, ek.len] at this
          simpa using this
        have := made_at (m := m) (i := i') hzl (by rw [hzs, hz]; exact hu) hi'
        rw [← h4] at this
        rw [List.getElem?_take] at this
        split at this
        · simpa using this
        · simp at this
      · simp at hx'
    · intro i' x' hx'
      rw [List.getElem?_replicate] at hx'
      split at hx'
      · obtain rfl := Option.some.inj hx'
        exact hin w'
      · simp at hx'
/-- what a flat row's elements are, one behind the other -/
def flatC {α : Type} (enc : α → List Value) (xs : List α) : List Value := xs.flatMap enc
theorem flatC_len {α : Type} {enc : α → List Value} {sz : Nat} (hl : ∀ x, (enc x).length = sz) : ∀ xs : List α, (flatC enc xs).length = xs.length * sz
  | [] => by simp [flatC]
  | x :: xs => by
    have := flatC_len hl xs
    simp only [flatC, List.flatMap_cons, List.length_append, List.length_cons, hl] at *
    rw [this, Nat.add_mul]; omega
theorem flatC_at {α : Type} {enc : α → List Value} {sz : Nat} (hl : ∀ x, (enc x).length = sz) : ∀ (xs : List α) (i : Nat) (x : α) (j : Nat) (u : Value), xs[i]? = some x → (enc x)[j]? = some u → (flatC enc xs)[i * sz + j]? = some u
  | [], i, x, j, u, h, _ => by simp at h
  | y :: xs, i, x, j, u, h, hu => by
    have hj : j < sz := by
      have := (List.getElem?_eq_some_iff.1 hu).1
      rwa [hl] at this
    cases i with
    | zero =>
      simp only [List.getElem?_cons_zero, Option.some.injEq] at h
      subst h
      simp only [flatC, List.flatMap_cons, Nat.zero_mul, Nat.zero_add]
      rw [List.getElem?_append_left (by rw [hl]; exact hj)]
      exact hu
    | succ i =>
      simp only [List.getElem?_cons_succ] at h
      have := flatC_at hl xs i x j u h hu
      simp only [flatC, List.flatMap_cons] at *
      rw [List.getElem?_append_right (by rw [hl, Nat.add_mul]; omega), hl, show (i + 1) * sz + j - sz = i * sz + j by rw [Nat.add_mul]; omega]
      exact this
theorem flatC_inv {α : Type} {enc : α → List Value} {sz : Nat} (hl : ∀ x, (enc x).length = sz) : ∀ (xs : List α) (p : Nat) (u : Value), (flatC enc xs)[p]? = some u → ∃ i x j, xs[i]? = some x ∧ (enc x)[j]? = some u ∧ p = i * sz + j
  | [], p, u, h => by simp [flatC] at h
  | y :: xs, p, u, h => by
    simp only [flatC, List.flatMap_cons] at h
    by_cases hp : p < (enc y).length
    · rw [List.getElem?_append_left hp] at h
      exact ⟨0, y, p, rfl, h, by simp⟩
    · rw [List.getElem?_append_right (by omega)] at h
      obtain ⟨i, x, j, h1, h2, h3⟩ := flatC_inv hl xs _ u h
      rw [hl] at h3 hp
      exact ⟨i + 1, x, j, by simpa using h1, h2, by rw [Nat.add_mul]; omega⟩

/-- the cells of a flat row that is read -/
theorem Rd.cells {α : Type} {sz : Nat} {enc : α → List Value} {hl : ∀ x, (enc x).length = sz} {h1 : ∀ x u, u ∈ enc x → u.oneCell' = true} {w : World} {v : Value} {xs : List α} (h : (flatEK sz enc hl h1).Rd w v xs) :
    ∃ A c, v = .slice A xs.length c ∧ xs.length ≤ c ∧ ∀ g o, A = some ⟨g, o, none⟩ → ∀ p u, (flatC enc xs)[p]? = some u → w.cell? ⟨g, o + p, none⟩ = some u := by
  obtain ⟨A, m, c, rfl, rfl, h3, _, h4⟩ := h
  refine ⟨A, c, rfl, h3, fun g o hA p u hp => ?_⟩
  obtain ⟨i, x, j, hx, hu, rfl⟩ := flatC_inv hl xs p u hp
  obtain ⟨g', o', hA', cs, hk, _, hc⟩ := h4 i x hx
  rw [hA] at hA'
  simp only [Option.some.injEq, Addr.mk.injEq] at hA'
  obtain ⟨rfl, rfl, _⟩ := hA'
  obtain rfl : cs = enc x := hk
  rw [← Nat.add_assoc]
  exact hc j u hu

/-- append's outcome, whatever the two slices -/
theorem run_append_any {α : Type} {sz b : Nat} {enc : α → List Value} {hl : ∀ x, (enc x).length = sz} {h1 : ∀ x u, u ∈ enc x → u.oneCell' = true} {T e : TypeId} {i : TypeInfo} {z : Value} (he : P.underlying T = some (.slice e)) (hi : P.info? e = some i) (hz : i.zero = some z)
    (hzl : z.cells.size = sz) (hsz : i.size = sz) (hby : i.bytes = b) {S : Nat → Prop} {xs ys : List α} (hv : (Own (flatEK sz enc hl h1) v xs).P S w) (hu : (flatEK sz enc hl h1).Rd w u ys)
    (hys : 0 < ys.length → ∃ g o m c, u = .slice (some ⟨g, o, none⟩) m c) (hb : (xs.length + ys.length) * b ≤ 140737488355328) (hn : xs.length + ys.length ≤ maxLen) :
    ∃ A c w', (Builtin.append_ #[T, T] ty #[v, u]).run P w = .ok (.slice A (xs.length + ys.length) c) w' ∧ w'.os = w.os ∧ w'.tape = w.tape ∧ w'.output = w.output ∧ w.heap.size ≤ w'.heap.size ∧
      (Own (flatEK sz enc hl h1) (.slice A (xs.length + ys.length) c) (xs ++ ys)).P (fun k => S k ∨ (w.heap.size ≤ k ∧ k < w'.heap.size)) w' ∧ (∀ k, k < w.heap.size → ¬ S k → w'.heap[k]? = w.heap[k]?) := by
  obtain ⟨B, c2, rfl, hc2, hcu⟩ := Rd.cells hu
  have hv0 := hv
  obtain ⟨A, m, c, rfl, rfl, hcm, hrow⟩ := hv
  rcases Nat.eq_zero_or_pos ys.length with h0 | hpos
  · -- nothing is appended
    have hnil : ys = [] := List.eq_nil_of_length_eq_zero h0
    subst hnil
    have hxc : xs.length ≤ c := by
      rcases hrow with ⟨rfl, rfl⟩ | ⟨_, _, _, _, _, _, _, _, hr, _⟩
      · simp
      · exact hr.fits
    refine ⟨A, c, w, ?_, rfl, rfl, rfl, Nat.le_refl _, ?_, fun _ _ _ => rfl⟩
    · cases A <;> cases B <;> simp [Builtin.append_, run_underlying he, sizeOf, typeInfo, hi, Builtin.lenOf, hxc, Builtin.firstCells, loadCells, loadCellsFrom, storeCells, go_sem]
    · simp only [List.length_nil, Nat.add_zero, List.append_nil]
      exact Res.mono _ (fun k hk => .inl hk) hv0
  · obtain ⟨b2, o2, m2, c2', hB⟩ := hys hpos
    simp only [Value.slice.injEq] at hB
    obtain ⟨rfl, _, _⟩ := hB
    have hnews : ∀ j x, (flatC enc ys)[j]? = some x → w.cell? ((⟨b2, o2, none⟩ : Addr).add j) = some x := fun j x hx => by rw [Addr.add_lit]; exact hcu _ _ rfl j x hx
    have hnl : (flatC enc ys).length = ys.length * i.size := by rw [flatC_len hl, hsz]
    have hone : ∀ x ∈ flatC enc ys, x.oneCell' = true := fun x hx => by
      simp only [flatC, List.mem_flatMap] at hx
      obtain ⟨y, _, hy⟩ := hx
      exact h1 y x hy
    by_cases hroom : xs.length + ys.length ≤ c
    · -- there is room
      rcases hrow with ⟨rfl, rfl⟩ | ⟨g, o, cur, T', vs, rfl, hS, hg, hr, f, f1, f2, f3⟩
      · have : ys.length ≤ 0 := by simpa using hroom
        omega
      · have hfit : o + xs.length * sz + (flatC enc ys).length ≤ cur.size := by
          rw [flatC_len hl]
          have hr1 := hr.room
          have : (xs.length + ys.length) * sz ≤ c * sz := Nat.mul_le_mul_right _ hroom
          rw [Nat.add_mul] at this
          simp only [flatEK] at hr1
          omega
        have hf := run_firstCells_some (P := P) w i.size ys.length ⟨b2, o2, none⟩ ys.length c2 _ hnl hnews
        have hst := run_storeCells_at P g (o + xs.length * sz) T' (flatC enc ys) 0 cur w hg (by simpa using hfit) hone
        simp only [Nat.add_zero] at hst
        refine ⟨some ⟨g, o, none⟩, c, w.setRow g (cur.toList.take (o + xs.length * sz) ++ flatC enc ys ++ cur.toList.drop (o + xs.length * sz + (flatC enc ys).length)).toArray, ?_, rfl, rfl, rfl, by simp [World.setRow], ?_, ?_⟩
        · subst hsz
          simp [Builtin.append_, run_underlying he, sizeOf, typeInfo, hi, Builtin.lenOf, hroom, hf, Addr.add_lit, hst]
        · refine ⟨some ⟨g, o, none⟩, xs.length + ys.length, c, rfl, by simp, hcm, .inr ⟨g, o, _, T', vs, rfl, .inl hS, heap_setRow_at hg, ⟨?_, by simpa using hroom, ?_⟩, f, fun i x hx => Sat.nil _ _, fun i k hf => ⟨.inl (f2 i k hf).1, (f2 i k hf).2⟩, f3⟩⟩
          · have := hr.room
            simp only [flatEK] at this ⊢
            simp
            omega
          · intro i' x hx j u' hu'
            simp only [flatEK] at hu' ⊢
            have hj : j < sz := by
              have := (List.getElem?_eq_some_iff.1 hu').1
              rwa [hl] at this
            by_cases hi' : i' < xs.length
            · rw [List.getElem?_append_left hi'] at hx
              have h2 := hr.at_ i' x hx j u' hu'
              simp only [flatEK] at h2
              have h3 : i' * sz + j < xs.length * sz := by
                calc i' * sz + j < i' * sz + sz := by omega
                  _ = (i' + 1) * sz := by rw [Nat.add_mul, Nat.one_mul]
                  _ ≤ xs.length * sz := Nat.mul_le_mul_right _ hi'
              simp only [List.getElem?_toArray]
              rw [List.append_assoc, List.getElem?_append_left (by simp; omega), List.getElem?_take, if_pos (by omega)]
              simpa using h2
            · rw [List.getElem?_append_right (by omega)] at hx
              have h2 := flatC_at hl ys _ x j u' hx hu'
              have h4 : i' * sz = xs.length * sz + (i' - xs.length) * sz := by rw [← Nat.add_mul]; congr 1; omega
              have h5 := (List.getElem?_eq_some_iff.1 h2).1
              simp only [List.getElem?_toArray]
              have hle : o + xs.length * sz ≤ cur.size := by omega
              rw [List.append_assoc, List.getElem?_append_right (by simp; omega), List.getElem?_append_left (by simp; omega)]
              simp only [List.length_take, Array.length_toList, Nat.min_eq_left hle]
              rw [show o + i' * sz + j - (o + xs.length * sz) = (i' - xs.length) * sz + j by omega]
              exact h2
        · intro k hk hn
          simp only [World.setRow, Array.getElem?_modify]
          rw [if_neg (fun e => hn (by rw [← e]; exact hS))]
    · -- a new row
      have hgrow : ∃ cp, xs.length + ys.length ≤ cp ∧ cp ≤ maxLen ∧ (Builtin.append_ #[T, T] ty #[.slice A xs.length c, .slice (some ⟨b2, o2, none⟩) ys.length c2]).run P w =
          .ok (.slice (some ⟨w.heap.size, 0, none⟩) (xs.length + ys.length) cp) (w.drew.alloc (.cells ((flatC enc xs).toArray ++ (flatC enc ys).toArray ++ Builtin.zeroCells z.cells (cp - (xs.length + ys.length))) e)) := by
        have hle : xs.length + ys.length ≤ grownCap w (xs.length + ys.length) c e := by simp [grownCap, Question.cut]
        have h63 : ((xs.length + ys.length : Nat) : Int) ≤ 9223372036854775807 := by simp only [maxLen] at hn; omega
        refine ⟨grownCap w (xs.length + ys.length) c e, hle, grownCap_le_maxLen _ _ _ _ hn, ?_⟩
        rcases hrow with ⟨rfl, rfl⟩ | ⟨g, o, cur, T', vs, rfl, hS, hg, hr, f, f1, f2, f3⟩
        · cases A with
          | none =>
            have := run_append_nil (P := P) w T ty e i z he hi hz ⟨b2, o2, none⟩ ys.length c2 _ hnl hnews hpos (by simp at h63; omega) (by rw [hby]; simp at hb; omega)
            simpa [flatC] using this
          | some ad => exact run_append_grow (P := P) w T ty e i z he hi hz ad 0 0 (flatC enc []) (by simp [flatC]) (fun j x hx => by simp [flatC] at hx) ⟨b2, o2, none⟩ ys.length c2 _ hnl hnews (by omega) h63 (by rw [hby]; exact growslice_fits (by omega) hb)
        · have holds : ∀ j x, (flatC enc xs)[j]? = some x → w.cell? ((⟨g, o, none⟩ : Addr).add j) = some x := fun j x hx => by
            obtain ⟨i', x', j', hx', hu', rfl⟩ := flatC_inv hl xs j x hx
            rw [Addr.add_lit, cell_of hg, ← Nat.add_assoc]
            exact hr.at_ i' x' hx' j' x hu'
          exact run_append_grow (P := P) w T ty e i z he hi hz ⟨g, o, none⟩ xs.length c (flatC enc xs) (by rw [flatC_len hl, hsz]) holds ⟨b2, o2, none⟩ ys.length c2 _ hnl hnews (by omega) h63 (by rw [hby]; exact growslice_fits (by omega) hb)
      obtain ⟨cp, hcp1, hcp2, hrun⟩ := hgrow
      refine ⟨_, _, _, hrun, rfl, rfl, rfl, by simp, ?_, fun k hk _ => Below.heap_alloc w.drew _ k hk⟩
      refine ⟨_, _, cp, rfl, by simp, hcp2, .inr ⟨w.heap.size, 0, _, e, fun _ => [], rfl, .inr ⟨Nat.le_refl _, by simp⟩, heap_alloc_new _ _, ⟨?_, by simpa using hcp1, ?_⟩, fun _ _ => False, fun _ _ _ => Sat.nil _ _, by simp, by simp⟩⟩
      · simp only [flatEK, Nat.zero_add, Array.size_append, List.size_toArray, flatC_len hl, size_zeroCells, hzl]
        rw [← Nat.add_mul, ← Nat.add_mul]
        exact Nat.mul_le_mul_right _ (by omega)
      · intro i' x hx j u' hu'
        simp only [flatEK] at hu' ⊢
        have hx' : (flatC enc (xs ++ ys))[i' * sz + j]? = some u' := flatC_at hl _ _ _ _ _ hx hu'
        have hlt := (List.getElem?_eq_some_iff.1 hx').1
        have happ : flatC enc (xs ++ ys) = flatC enc xs ++ flatC enc ys := by simp [flatC]
        rw [happ] at hx' hlt
        rw [Nat.zero_add, Array.getElem?_append_left (by simpa using hlt)]
        simpa using hx'

theorem wl_append {α : Type} {sz b q : Nat} {enc : α → List Value} {hl : ∀ x, (enc x).length = sz} {h1 : ∀ x u, u ∈ enc x → u.oneCell' = true} {T : TypeId} {X Y : Operand} {zs : List Value} {xs ys : List α} (hF : Fr n L a) (hS : Sep w0 l w) (hdn : Nat.ble (d + 1) n = true)
    (hq : l[q]? = some (Own (flatEK sz enc hl h1) v xs)) (hu : (flatEK sz enc hl h1).Rd w u ys) (hm : mkB P T = some (zs, sz, b)) (hzl : zs.length = sz) (hX : a.eval X = v) (hY : a.eval Y = u)
    (hb : (xs.length + ys.length) * b ≤ 140737488355328) (hn : xs.length + ys.length ≤ maxLen)
    (k : ∀ A c w' a, Sep w0 (l.set q (Own (flatEK sz enc hl h1) (.slice A (xs.length + ys.length) c) (xs ++ ys))) w' → Fr n ((d, .slice A (xs.length + ys.length) c) :: L) a → wpList P ops Q rest a w') :
    wpList P ops Q (⟨some d, .call ⟨.builtin .append, #[X, Y], #[T, T]⟩, ty, ps, af, none⟩ :: rest) a w := by
  obtain ⟨e, i, z, he, hi, hz, hzs, hsz, hby⟩ := mkB_parts hm
  obtain ⟨f, g1, g2, g3⟩ := hS.sat
  have hys : 0 < ys.length → ∃ g o m c, u = .slice (some ⟨g, o, none⟩) m c := fun hp => by
    obtain ⟨g, o, m, c, hv, _⟩ := Rd.idxF hu (i := 0) (List.getElem?_eq_getElem hp)
    exact ⟨g, o, m, c, hv⟩
  obtain ⟨A, c, w', hrun, e1, e2, e3, e4, hown, hk⟩ := run_append_any (P := P) (ty := ty) he hi hz (by rw [← hzl, ← hzs]; simp) hsz hby (g1 q _ hq) hu hys hb hn
  refine wl (w' := w') (v := .slice A (xs.length + ys.length) c) hF rfl rfl hdn (r_append hX hY hrun) (fun a hF => k _ _ _ _ ?_ hF)
  refine ⟨?_, ?_⟩
  · refine hS.old.trans ⟨e1, e2, e3, e4, fun k hk' => hk k (Nat.lt_of_lt_of_le hk' hS.old.size) (fun hf => ?_)⟩
    have := (g2 q k hf).1
    omega
  · refine Sat.mono (Sat.upd' ⟨f, g1, g2, g3⟩ (N := fun k => w.heap.size ≤ k ∧ k < w'.heap.size) hq (fun k h1 h2 => by omega) hown (fun k hk1 hk2 => hk k hk1.2 hk2) g1 g2 g3) (fun k hk => ?_)
    rcases hk with hk | hk
    · exact ⟨hk.1, Nat.lt_of_lt_of_le hk.2 e4⟩
    · exact ⟨Nat.le_trans hS.old.size hk.1, hk.2⟩
end
end Go.Proofs.YtifhfodphoeeoaaGreat.Sl
