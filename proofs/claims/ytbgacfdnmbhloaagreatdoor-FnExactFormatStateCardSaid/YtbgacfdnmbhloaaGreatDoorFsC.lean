/- FnExactFormatState, for all states: the program's FormatState returns what the reference's returns, and the argument stays as it was; the table of powers of ten that strconv reads is tied to the program's text. Condition: the law's own guard on size. -/
import Derived.Test.YtbgacfdnmbhloaaGreatDoorFsB
import Derived.Test.YtbgacfdnmbhloaaGreatDoorRows
set_option maxHeartbeats 4000000
set_option maxRecDepth 20000
namespace Go.Proofs.YtbgacfdnmbhloaaGreatDoor.Sl
open Go Go.RowKit
set_option linter.unusedVariables false
set_option linter.unusedSimpArgs false
section
variable {W w w' : World} {l : List Res} {q g o n c : Nat} {xs ys : List Int}
/-- the row's cells hold other numbers, all else stands; new blocks may have come up -/
theorem Sep.own_put (h : Sep W l w) (hq : l[q]? = some (Own intEK (.slice (some ⟨g, o, none⟩) n c) xs)) (hc : c ≠ 0) (hlen : ys.length = xs.length) (hos : w'.os = w.os) (htape : w'.tape = w.tape) (hout : w'.output = w.output) (hsz : w.heap.size ≤ w'.heap.size)
    (hk : ∀ k, k < w.heap.size → k ≠ g → w'.heap[k]? = w.heap[k]?)
    (hg : ∀ cur T fz, w.heap[g]? = some (.cells cur T fz) → ∃ cur', w'.heap[g]? = some (.cells cur' T fz) ∧ cur'.size = cur.size ∧ ∀ j y, ys[j]? = some y → o + j < cur.size → cur'[o + j]? = some (vi y)) :
    Sep W (l.set q (Own intEK (.slice (some ⟨g, o, none⟩) n c) ys)) w' := by
  refine h.upd hq hos htape hout hsz (fun F hF hs => ?_)
  obtain ⟨A, n', c', e, h2, h3, h4⟩ := hF
  simp only [Value.slice.injEq] at e
  obtain ⟨rfl, rfl, rfl⟩ := e
  rcases h4 with ⟨h5, _⟩ | ⟨g', o', cur, T, vs, e, hS, hh, hr, f, f1, f2, f3⟩
  · exact absurd h5 hc
  · simp only [Option.some.injEq, Addr.mk.injEq] at e
    obtain ⟨rfl, rfl, _⟩ := e
    obtain ⟨cur', hh', hsz', hat⟩ := hg cur T (0, 0) hh
    refine ⟨⟨_, _, _, rfl, by omega, h3, .inr ⟨g, o, cur', T, vs, rfl, .inl hS, hh', ⟨by rw [hsz']; exact hr.room, by have := hr.fits; omega, fun i x hx j u hu => ?_⟩, fun _ _ => False, fun i x hx => Sat.nil _ _, fun _ _ h => h.elim, fun _ _ _ h _ => h.elim⟩⟩, fun k hlt hn => hk k hlt (fun e => hn (e ▸ hS))⟩
    have hi := (List.getElem?_eq_some_iff.1 hx).1
    match j, hu with
    | 0, hu =>
      have hu' : some (vi x) = some u := hu
      have e1 : i * intEK.sz = i := by show i * 1 = i; omega
      have e2 : c * intEK.sz = c := by show c * 1 = c; omega
      have h6 := hr.room; have h7 := hr.fits
      rw [e2] at h6
      rw [e1, Nat.add_zero, hat i x hx (by omega), hu']
    | j + 1, hu => exact absurd hu (by show ([] : List Value)[j]? ≠ some u; simp)
theorem Sep.own_holds (h : Sep W l w) (hq : l[q]? = some (Own intEK (.slice (some ⟨g, o, none⟩) n c) xs)) (hc : c ≠ 0) : Go.Sort.Holds (Value.int .i64) w g o xs.toArray ∧ g < w.heap.size := by
 obtain ⟨A, n', c', e, h2, h3, h4⟩ := h.sat.get hq
 simp only [Value.slice.injEq] at e
 obtain ⟨rfl, rfl, rfl⟩ := e
 rcases h4 with ⟨h5, _⟩ | ⟨g', o', cur, T, vs, e, hS, hh, hr, f, f1, f2, f3⟩
 · exact absurd h5 hc
 · simp only [Option.some.injEq, Addr.mk.injEq] at e
   obtain ⟨rfl, rfl, _⟩ := e
   refine ⟨fun j hj => ⟨?_, frozen_of hh⟩, (Array.getElem?_eq_some_iff.1 hh).1⟩
   have hj' : j < xs.length := by simpa using hj
   have := hr.at_ j xs[j] (List.getElem?_eq_getElem hj') 0 (vi xs[j]) rfl
   have e1 : j * intEK.sz = j := by show j * 1 = j; omega
   rw [e1, Nat.add_zero] at this
   rw [cell_of hh, this, getElem!_pos _ j hj]
   rfl
theorem putRow_at {w : World} {m g o : Nat} {d : Array Int} : ∀ cur T fz, w.heap[g]? = some (.cells cur T fz) → ∃ cur', (Go.Sort.putRow (Value.int .i64) (Go.Sort.ahead w m) g o d).heap[g]? = some (.cells cur' T fz) ∧ cur'.size = cur.size ∧ ∀ j y, d.toList[j]? = some y → o + j < cur.size → cur'[o + j]? = some (vi y) := by
 intro cur T fz hh
 refine ⟨Go.Sort.putCells (Value.int .i64) o d cur, ?_, by simp [Go.Sort.putCells], fun j y hy hlt => ?_⟩
 · unfold Go.Sort.putRow Go.Sort.mapBlock Go.Sort.ahead
   simp only [Array.getElem?_modify, if_true, hh, Option.map_some, Go.Sort.onCells]
 · have hj : j < d.size := by
     have := (List.getElem?_eq_some_iff.1 hy).1
     simpa using this
   unfold Go.Sort.putCells
   rw [Array.getElem?_mapIdx, Array.getElem?_eq_getElem hlt, Option.map_some, if_pos ⟨by omega, by omega⟩, show o + j - o = j by omega, getElem!_pos d j hj]
   have hy' : d[j]? = some y := by rw [← Array.getElem?_toList]; exact hy
   rw [Array.getElem?_eq_getElem hj] at hy'
   rw [Option.some.inj hy']
theorem putRow_other {w : World} {m g o k : Nat} {d : Array Int} (hk : k ≠ g) : (Go.Sort.putRow (Value.int .i64) (Go.Sort.ahead w m) g o d).heap[k]? = w.heap[k]? := by
 unfold Go.Sort.putRow Go.Sort.mapBlock Go.Sort.ahead
 simp [Array.getElem?_modify, Ne.symm hk]
theorem putRow_size {w : World} {m g o : Nat} {d : Array Int} : (Go.Sort.putRow (Value.int .i64) (Go.Sort.ahead w m) g o d).heap.size = w.heap.size := by
 unfold Go.Sort.putRow Go.Sort.mapBlock Go.Sort.ahead
 simp
def sortL (xs : List Int) : List Int := xs.mergeSort fun x y => decide (x ≤ y)
theorem Sep.sorted {m : Nat} {os : Array Obj} (h : Sep W l w) (hq : l[q]? = some (Own intEK (.slice (some ⟨g, o, none⟩) n c) xs)) (hc : c ≠ 0) :
    Sep W (l.set q (Own intEK (.slice (some ⟨g, o, none⟩) n c) (sortL xs))) (Go.Sort.grow (Go.Sort.putRow (Value.int .i64) (Go.Sort.ahead w m) g o (sortL xs).toArray) os) := by
  have hg := (h.own_holds hq hc).2
  have hs := putRow_size (w := w) (m := m) (g := g) (o := o) (d := (sortL xs).toArray)
  refine h.own_put hq hc (by unfold sortL; simp) rfl rfl rfl (by rw [Go.Sort.size_grow, hs]; omega) (fun k hk hne => ?_) (fun cur T fz hh => ?_)
  · unfold Go.Sort.grow
    show (_ ++ os)[k]? = _
    rw [Array.getElem?_append_left (by rw [hs]; exact hk), putRow_other hne]
  · obtain ⟨cur', h1, h2, h3⟩ := putRow_at (m := m) (o := o) (d := (sortL xs).toArray) cur T fz hh
    refine ⟨cur', ?_, h2, h3⟩
    unfold Go.Sort.grow
    show (_ ++ os)[g]? = _
    rw [Array.getElem?_append_left (by rw [hs]; exact hg), h1]
theorem Sep.compacted {m : Nat} (h : Sep W l w) (hq : l[q]? = some (Own intEK (.slice (some ⟨g, o, none⟩) n c) xs)) (hc : c ≠ 0) (hl : (Lib.compact xs).length ≤ xs.length) (hn : n = xs.length) :
    Sep W (l.set q (Own intEK (.slice (some ⟨g, o, none⟩) (Lib.compact xs).length c) (Lib.compact xs))) (Go.Sort.putRow (Value.int .i64) (Go.Sort.ahead w m) g o (Lib.compact xs ++ List.replicate (xs.length - (Lib.compact xs).length) 0).toArray) := by
  have hlt := (List.getElem?_eq_some_iff.1 hq).1
  have h1 : Sep W (l.set q (Own intEK (.slice (some ⟨g, o, none⟩) n c) (Lib.compact xs ++ List.replicate (xs.length - (Lib.compact xs).length) 0))) (Go.Sort.putRow (Value.int .i64) (Go.Sort.ahead w m) g o (Lib.compact xs ++ List.replicate (xs.length - (Lib.compact xs).length) 0).toArray) :=
    h.own_put hq hc (by simp; omega) rfl rfl rfl (Nat.le_of_eq putRow_size.symm) (fun k hk hne => putRow_other hne) (fun cur T fz hh => putRow_at (m := m) cur T fz hh)
  have h2 := h1.own_cuthi (q := q) (j := (Lib.compact xs).length) (List.getElem?_set_self hlt) (by omega)
  rw [List.set_set, List.take_left'] at h2
  · exact h2
  · rfl
end
/-! ### a sorted list that is compacted -/
theorem sortL_mem {xs : List Int} {x : Int} : x ∈ sortL xs ↔ x ∈ xs := List.mem_mergeSort
theorem sortL_sorted (xs : List Int) : (sortL xs).Pairwise (· ≤ ·) := by
 have h := List.pairwise_mergeSort (le := fun x y : Int => decide (x ≤ y)) (fun a b c h1 h2 => by simp at *; omega) (fun a b => by simp; omega) xs
 exact h.imp (fun h => by simpa using h)
theorem upTo_props (d : Array Int) (hs : ∀ i j, i ≤ j → j < d.size → d[i]! ≤ d[j]!) : ∀ m, m ≤ d.size → (Lib.compactUpTo d m).Pairwise (· < ·) ∧ (∀ x, x ∈ Lib.compactUpTo d m ↔ ∃ j, j < m ∧ d[j]! = x)
  | 0, _ => ⟨by simp [Lib.compactUpTo], fun x => by simp [Lib.compactUpTo]⟩
  | m + 1, hm => by
    obtain ⟨h1, h2⟩ := upTo_props d hs m (by omega)
    rw [Lib.compactUpTo_succ]
    by_cases hk : Lib.keeps d m = true
    · rw [if_pos hk]
      refine ⟨List.pairwise_append.2 ⟨h1, by simp, fun a ha b hb => ?_⟩, fun x => ?_⟩
      · simp at hb; subst hb
        obtain ⟨j, hj, rfl⟩ := (h2 a).1 ha
        unfold Lib.keeps at hk
        simp only [decide_eq_true_eq] at hk
        rcases hk with hk | hk
        · omega
        · have e1 := hs j (m - 1) (by omega) (by omega)
          have e2 := hs (m - 1) m (by omega) (by omega)
          omega
      · rw [List.mem_append, h2]
        constructor
        · rintro (⟨j, hj, rfl⟩ | h)
          · exact ⟨j, by omega, rfl⟩
          · simp at h; exact ⟨m, by omega, h.symm⟩
        · rintro ⟨j, hj, rfl⟩
          by_cases e : j = m
          · subst e; right; simp
          · left; exact ⟨j, by omega, rfl⟩
    · rw [if_neg hk, List.append_nil]
      refine ⟨h1, fun x => ?_⟩
      rw [h2]
      constructor
      · rintro ⟨j, hj, rfl⟩; exact ⟨j, by omega, rfl⟩
      · rintro ⟨j, hj, rfl⟩
        by_cases e : j = m
        · subst e
          unfold Lib.keeps at hk
          simp only [decide_eq_true_eq, not_or, Decidable.not_not] at hk
          exact ⟨j - 1, by omega, hk.2.symm⟩
        · exact ⟨j, by omega, rfl⟩
theorem compact_props {xs : List Int} (hs : xs.Pairwise (· ≤ ·)) : (Lib.compact xs).Pairwise (· < ·) ∧ (∀ x, x ∈ Lib.compact xs ↔ x ∈ xs) := by
 have key := upTo_props xs.toArray (fun i j hij hj => by
   have hj' : j < xs.length := by simpa using hj
   rw [getElem!_pos xs.toArray i (by simp; omega), getElem!_pos xs.toArray j hj]
   simp only [List.getElem_toArray]
   by_cases e : i = j
   · subst e; exact Int.le_refl _
   · exact List.pairwise_iff_getElem.1 hs i j (by omega) hj' (by omega)) xs.length (by simp)
 refine ⟨key.1, fun x => (key.2 x).trans ?_⟩
 constructor
 · rintro ⟨j, hj, rfl⟩
   rw [getElem!_pos xs.toArray j (by simpa using hj)]
   simp
 · intro hx
   obtain ⟨j, hj, rfl⟩ := List.getElem_of_mem hx
   exact ⟨j, hj, by rw [getElem!_pos xs.toArray j (by simpa using hj)]; simp⟩
theorem eq_of_sorted : ∀ {xs ys : List Int}, xs.Pairwise (· < ·) → ys.Pairwise (· < ·) → (∀ x, x ∈ xs ↔ x ∈ ys) → xs = ys
  | [], [], _, _, _ => rfl
  | [], y :: ys, _, _, h => by have := (h y).2 (by simp); simp at this
  | x :: xs, [], _, _, h => by have := (h x).1 (by simp); simp at this
  | x :: xs, y :: ys, h1, h2, h => by
    rw [List.pairwise_cons] at h1 h2
    have e : x = y := by
      rcases List.mem_cons.1 ((h x).1 (by simp)) with h3 | h3
      · exact h3
      · rcases List.mem_cons.1 ((h y).2 (by simp)) with h4 | h4
        · exact h4.symm
        · have := h1.1 y h4; have := h2.1 x h3; omega
    subst e
    congr 1
    refine eq_of_sorted h1.2 h2.2 (fun z => ?_)
    constructor
    · intro hz
      rcases List.mem_cons.1 ((h z).1 (by simp [hz])) with h3 | h3
      · subst h3; have := h1.1 z hz; omega
      · exact h3
    · intro hz
      rcases List.mem_cons.1 ((h z).2 (by simp [hz])) with h3 | h3
      · subst h3; have := h2.1 z hz; omega
      · exact h3
theorem compact_len {xs : List Int} : (Lib.compact xs).length ≤ xs.length := by
 unfold Lib.compact Lib.compactUpTo
 rw [List.length_map]
 exact Nat.le_trans (List.length_filter_le _ _) (by simp)
end Go.Proofs.YtbgacfdnmbhloaaGreatDoor.Sl
namespace Go.Proofs
open Go.Shelf
def Tryz.lays156_ren : Go.Shelf.Ren := ⟨fun | 156 => 19 | 165 => 50 | 166 => 51 | 169 => 52 | 240 => 77 | 241 => 78 | 276 => 94 | 277 => 95 | n => n, fun | 31 => 48 | 9 => 9 | 3 => 3 | 4 => 4 | 0 => 0 | 20 => 20 | 72 => 81 | 76 => 85 | 70 => 79 | 37 => 73 | 75 => 84 | 127 => 102 | 164 => 113 | 5 => 5 | 80 => 87 | n => n, fun | n => n⟩
theorem Tryz.lays156 : Go.Proofs.Lays.n156 Tryz.prog Tryz.lays156_ren := {
  mixed := by kernel_rfl
  f156 := Tryz.func19.trans (congrArg some (by kernel_rfl))
  f165 := Tryz.func50.trans (congrArg some (by kernel_rfl))
  f166 := Tryz.func51.trans (congrArg some (by kernel_rfl))
  f169 := Tryz.func52.trans (congrArg some (by kernel_rfl))
  f240 := Tryz.func77.trans (congrArg some (by kernel_rfl))
  f241 := Tryz.func78.trans (congrArg some (by kernel_rfl))
  f276 := Tryz.func94.trans (congrArg some (by kernel_rfl))
  f277 := Tryz.func95.trans (congrArg some (by kernel_rfl))
  t0 := Tryz.underlying0
  a0 := Tryz.isAgg0
  z0 := Tryz.sizeOf0
  v0 := Tryz.zeroValue0
  t3 := Tryz.underlying3
  a3 := Tryz.isAgg3
  z3 := Tryz.sizeOf3
  v3 := Tryz.zeroValue3
  t4 := Tryz.underlying4
  a4 := Tryz.isAgg4
  z4 := Tryz.sizeOf4
  v4 := Tryz.zeroValue4
  t9 := Tryz.underlying9
  a9 := Tryz.isAgg9
  z9 := Tryz.sizeOf9
  v9 := Tryz.zeroValue9
  t20 := Tryz.underlying20
  a20 := Tryz.isAgg20
  z20 := Tryz.sizeOf20
  v20 := Tryz.zeroValue20
  t31 := Tryz.underlying48
  a31 := Tryz.isAgg48
  z31 := Tryz.sizeOf48
  v31 := Tryz.zeroValue48
  t37 := Tryz.underlying73
  a37 := Tryz.isAgg73
  z37 := Tryz.sizeOf73
  v37 := Tryz.zeroValue73
  t70 := Tryz.underlying79
  a70 := Tryz.isAgg79
  z70 := Tryz.sizeOf79
  v70 := Tryz.zeroValue79
  t72 := Tryz.underlying81
  a72 := Tryz.isAgg81
  z72 := Tryz.sizeOf81
  v72 := Tryz.zeroValue81
  t75 := Tryz.underlying84
  a75 := Tryz.isAgg84
  z75 := Tryz.sizeOf84
  v75 := Tryz.zeroValue84
  t76 := Tryz.underlying85
  a76 := Tryz.isAgg85
  z76 := Tryz.sizeOf85
  v76 := Tryz.zeroValue85
  t127 := Tryz.underlying102
  a127 := Tryz.isAgg102
  z127 := Tryz.sizeOf102
  v127 := Tryz.zeroValue102
  t164 := Tryz.underlying113
  a164 := Tryz.isAgg113
  z164 := Tryz.sizeOf113
  v164 := Tryz.zeroValue113 }
theorem Tryz.Builder_Extra_156 : Builder.Extra Tryz.prog Tryz.lays156_ren := {
  sizeBuilder := by kernel_rfl
  liesBuilder := by kernel_rfl
  t5 := Tryz.underlying5
  a5 := Tryz.isAgg5
  z5 := Tryz.sizeOf5
  v5 := Tryz.zeroValue5
  infoByte := by kernel_rfl
  cellsByte := by kernel_rfl
  sizeByte := by kernel_rfl
  neB5 := by decide }
open Go.RowKit in
theorem Tryz.strings_Join (bk o c : Nat) (xs : List ByteArray) (sep : ByteArray) (w : World) (hcells : ∀ (j : Nat) x, xs[j]? = some x → w.cell? ⟨bk, o + j, none⟩ = some (.string x)) (hbk : bk < w.heap.size) (hN : xs.length ≤ 140737488355328) (hcap : xs.length ≤ c) (hlen : (Lib.join (xs.map (·.data.toList)) sep.data.toList).length ≤ 140737488355328) :
    Calls Tryz.prog 19 #[.slice (some ⟨bk, o, none⟩) xs.length c, .string sep] w fun e w' => e = .returned (.string ⟨(Lib.join (xs.map (·.data.toList)) sep.data.toList).toArray⟩) ∧ Below w.heap.size w w' := Any.strings_Join Tryz.lays156 Tryz.Builder_Extra_156 bk o c xs sep w hcells hbk hN hcap hlen
def Tryz.laysM171_ren : Go.Shelf.Ren := ⟨fun | 171 => 53 | 243 => 79 | 246 => 96 | 283 => 113 | 284 => 114 | 285 => 115 | 286 => 116 | 129 => 107 | 317 => 123 | 318 => 124 | 319 => 125 | 320 => 126 | 337 => 128 | 338 => 129 | n => n, fun | 3 => 3 | 9 => 9 | 2 => 2 | 4 => 4 | 171 => 136 | 0 => 0 | 53 => 129 | 37 => 73 | 5 => 5 | 173 => 138 | 212 => 147 | 51 => 127 | 20 => 20 | 213 => 148 | 46 => 105 | 232 => 152 | 233 => 153 | n => n, fun | 17 => 1 | 18 => 2 | 19 => 3 | n => n⟩
theorem Tryz.laysM171 : Go.Proofs.LaysM.n171 Tryz.prog Tryz.laysM171_ren := {
  mixed := by kernel_rfl
  f129 := Tryz.func107.trans (congrArg some (by kernel_rfl))
  f171 := Tryz.func53.trans (congrArg some (by kernel_rfl))
  f243 := Tryz.func79.trans (congrArg some (by kernel_rfl))
  f246 := Tryz.func96.trans (congrArg some (by kernel_rfl))
  f283 := Tryz.func113.trans (congrArg some (by kernel_rfl))
  f284 := Tryz.func114.trans (congrArg some (by kernel_rfl))
  f285 := Tryz.func115.trans (congrArg some (by kernel_rfl))
  f286 := Tryz.func116.trans (congrArg some (by kernel_rfl))
  f317 := Tryz.func123.trans (congrArg some (by kernel_rfl))
  f318 := Tryz.func124.trans (congrArg some (by kernel_rfl))
  f319 := Tryz.func125.trans (congrArg some (by kernel_rfl))
  f320 := Tryz.func126.trans (congrArg some (by kernel_rfl))
  f337 := Tryz.func128.trans (congrArg some (by kernel_rfl))
  f338 := Tryz.func129.trans (congrArg some (by kernel_rfl))
  t0 := Tryz.underlying0
  a0 := Tryz.isAgg0
  z0 := Tryz.sizeOf0
  v0 := Tryz.zeroValue0
  t2 := Tryz.underlying2
  a2 := Tryz.isAgg2
  z2 := Tryz.sizeOf2
  v2 := Tryz.zeroValue2
  t3 := Tryz.underlying3
  a3 := Tryz.isAgg3
  z3 := Tryz.sizeOf3
  v3 := Tryz.zeroValue3
  t4 := Tryz.underlying4
  a4 := Tryz.isAgg4
  z4 := Tryz.sizeOf4
  v4 := Tryz.zeroValue4
  t5 := Tryz.underlying5
  a5 := Tryz.isAgg5
  z5 := Tryz.sizeOf5
  v5 := Tryz.zeroValue5
  t9 := Tryz.underlying9
  a9 := Tryz.isAgg9
  z9 := Tryz.sizeOf9
  v9 := Tryz.zeroValue9
  t20 := Tryz.underlying20
  a20 := Tryz.isAgg20
  z20 := Tryz.sizeOf20
  v20 := Tryz.zeroValue20
  t37 := Tryz.underlying73
  a37 := Tryz.isAgg73
  z37 := Tryz.sizeOf73
  v37 := Tryz.zeroValue73
  t46 := Tryz.underlying105
  a46 := Tryz.isAgg105
  z46 := Tryz.sizeOf105
  v46 := Tryz.zeroValue105
  t51 := Tryz.underlying127
  a51 := Tryz.isAgg127
  z51 := Tryz.sizeOf127
  v51 := Tryz.zeroValue127
  t53 := Tryz.underlying129
  a53 := Tryz.isAgg129
  z53 := Tryz.sizeOf129
  v53 := Tryz.zeroValue129
  t171 := Tryz.underlying136
  a171 := Tryz.isAgg136
  z171 := Tryz.sizeOf136
  v171 := Tryz.zeroValue136
  t173 := Tryz.underlying138
  a173 := Tryz.isAgg138
  z173 := Tryz.sizeOf138
  v173 := Tryz.zeroValue138
  t212 := Tryz.underlying147
  a212 := Tryz.isAgg147
  z212 := Tryz.sizeOf147
  v212 := Tryz.zeroValue147
  t213 := Tryz.underlying148
  a213 := Tryz.isAgg148
  z213 := Tryz.sizeOf148
  t232 := Tryz.underlying152
  a232 := Tryz.isAgg152
  z232 := Tryz.sizeOf152
  v232 := Tryz.zeroValue152
  t233 := Tryz.underlying153
  a233 := Tryz.isAgg153
  z233 := Tryz.sizeOf153
  v233 := Tryz.zeroValue153
  g17 := by kernel_rfl
  g18 := by kernel_rfl
  g19 := by kernel_rfl
  i0 := by kernel_rfl
  i2 := by kernel_rfl
  i3 := by kernel_rfl
  i4 := by kernel_rfl
  i5 := by kernel_rfl
  i9 := by kernel_rfl
  i20 := by kernel_rfl
  i37 := by kernel_rfl
  i46 := by kernel_rfl
  i51 := by kernel_rfl
  i53 := by kernel_rfl
  i171 := by kernel_rfl
  i173 := by kernel_rfl
  i212 := by kernel_rfl
  i232 := by kernel_rfl
  i233 := by kernel_rfl
  m17 := by kernel_rfl
  m18 := by kernel_rfl
  m19 := by kernel_rfl }
open Go.RowKit Go.Sort Go.Lib in
theorem Tryz.strconv_Itoa (n : Int) (h0 : -9223372036854775808 ≤ n) (h1 : n ≤ 9223372036854775807) (w : World) (htab : Lib.TabIs Tryz.prog w "internal/strconv.uint64pow10" .u64 Lib.pow10Tab) :
    Calls Tryz.prog 53 #[.int .i64 n] w fun e w' => e = .returned (.string ⟨(Lib.itoa n).toArray⟩) ∧ ∃ k os, w' = grow (w.drewN k) os := Any.strconv_Itoa Tryz.laysM171 n h0 h1 w htab
def Tryz.lays189_ren : Go.Shelf.Ren := ⟨fun | 189 => 54 | 125 => 81 | 257 => 80 | 128 => 106 | 129 => 107 | 294 => 97 | 295 => 98 | 296 => 99 | 297 => 100 | 298 => 101 | 299 => 102 | 216 => 103 | 300 => 104 | 301 => 105 | 328 => 117 | 329 => 118 | 330 => 119 | 331 => 120 | 332 => 121 | 215 => 122 | 343 => 127 | n => n, fun | 28 => 24 | 3 => 3 | 46 => 105 | 0 => 0 | 51 => 127 | 53 => 129 | 4 => 4 | 183 => 119 | 182 => 118 | 131 => 124 | 5 => 5 | 9 => 9 | 218 => 140 | 222 => 144 | 228 => 149 | 229 => 150 | n => n, fun | n => n⟩
theorem Tryz.lays189 : Go.Proofs.Lays.n189 Tryz.prog Tryz.lays189_ren := {
  mixed := by kernel_rfl
  f125 := Tryz.func81.trans (congrArg some (by kernel_rfl))
  f128 := Tryz.func106.trans (congrArg some (by kernel_rfl))
  f129 := Tryz.func107.trans (congrArg some (by kernel_rfl))
  f189 := Tryz.func54.trans (congrArg some (by kernel_rfl))
  f215 := Tryz.func122.trans (congrArg some (by kernel_rfl))
  f216 := Tryz.func103.trans (congrArg some (by kernel_rfl))
  f257 := Tryz.func80.trans (congrArg some (by kernel_rfl))
  f294 := Tryz.func97.trans (congrArg some (by kernel_rfl))
  f295 := Tryz.func98.trans (congrArg some (by kernel_rfl))
  f296 := Tryz.func99.trans (congrArg some (by kernel_rfl))
  f297 := Tryz.func100.trans (congrArg some (by kernel_rfl))
  f298 := Tryz.func101.trans (congrArg some (by kernel_rfl))
  f299 := Tryz.func102.trans (congrArg some (by kernel_rfl))
  f300 := Tryz.func104.trans (congrArg some (by kernel_rfl))
  f301 := Tryz.func105.trans (congrArg some (by kernel_rfl))
  f328 := Tryz.func117.trans (congrArg some (by kernel_rfl))
  f329 := Tryz.func118.trans (congrArg some (by kernel_rfl))
  f330 := Tryz.func119.trans (congrArg some (by kernel_rfl))
  f331 := Tryz.func120.trans (congrArg some (by kernel_rfl))
  f332 := Tryz.func121.trans (congrArg some (by kernel_rfl))
  f343 := Tryz.func127.trans (congrArg some (by kernel_rfl))
  t0 := Tryz.underlying0
  a0 := Tryz.isAgg0
  z0 := Tryz.sizeOf0
  v0 := Tryz.zeroValue0
  t3 := Tryz.underlying3
  a3 := Tryz.isAgg3
  z3 := Tryz.sizeOf3
  v3 := Tryz.zeroValue3
  t4 := Tryz.underlying4
  a4 := Tryz.isAgg4
  z4 := Tryz.sizeOf4
  v4 := Tryz.zeroValue4
  t5 := Tryz.underlying5
  a5 := Tryz.isAgg5
  z5 := Tryz.sizeOf5
  v5 := Tryz.zeroValue5
  t9 := Tryz.underlying9
  a9 := Tryz.isAgg9
  z9 := Tryz.sizeOf9
  v9 := Tryz.zeroValue9
  t28 := Tryz.underlying24
  a28 := Tryz.isAgg24
  z28 := Tryz.sizeOf24
  v28 := Tryz.zeroValue24
  t46 := Tryz.underlying105
  a46 := Tryz.isAgg105
  z46 := Tryz.sizeOf105
  v46 := Tryz.zeroValue105
  t51 := Tryz.underlying127
  a51 := Tryz.isAgg127
  z51 := Tryz.sizeOf127
  v51 := Tryz.zeroValue127
  t53 := Tryz.underlying129
  a53 := Tryz.isAgg129
  z53 := Tryz.sizeOf129
  v53 := Tryz.zeroValue129
  t131 := Tryz.underlying124
  a131 := Tryz.isAgg124
  z131 := Tryz.sizeOf124
  v131 := Tryz.zeroValue124
  t182 := Tryz.underlying118
  a182 := Tryz.isAgg118
  z182 := Tryz.sizeOf118
  v182 := Tryz.zeroValue118
  t183 := Tryz.underlying119
  a183 := Tryz.isAgg119
  z183 := Tryz.sizeOf119
  v183 := Tryz.zeroValue119
  t218 := Tryz.underlying140
  a218 := Tryz.isAgg140
  z218 := Tryz.sizeOf140
  v218 := Tryz.zeroValue140
  t222 := Tryz.underlying144
  a222 := Tryz.isAgg144
  z222 := Tryz.sizeOf144
  v222 := Tryz.zeroValue144
  t228 := Tryz.underlying149
  a228 := Tryz.isAgg149
  z228 := Tryz.sizeOf149
  v228 := Tryz.zeroValue149
  t229 := Tryz.underlying150
  a229 := Tryz.isAgg150
  z229 := Tryz.sizeOf150
  v229 := Tryz.zeroValue150 }
open Go.Sort Go.RowKit in
theorem Tryz.slices_Sort_int (blk off cap : Nat) (zs : List Int) (w : World) (hH : Holds (Value.int .i64) w blk off zs.toArray) (hblk : blk < w.heap.size) (hsz : zs.length < 4611686018427387904) :
    Calls Tryz.prog 54 #[.slice (some ⟨blk, off, none⟩) zs.length cap] w fun e w' =>
      e = .returned (.tuple #[]) ∧ ∃ n os, w' = grow (putRow (Value.int .i64) (Sort.ahead w n) blk off (zs.mergeSort fun x y => decide (x ≤ y)).toArray) os := Any.slices_Sort_int Tryz.lays189 blk off cap zs w hH hblk hsz
def Tryz.laysNm220_ren : Go.Shelf.Ren := ⟨fun | 20 => 55 | n => n, fun | 22 => 24 | 3 => 3 | 4 => 4 | 0 => 0 | n => n, fun | n => n⟩
theorem Tryz.laysNm220 : Go.Proofs.Lays2.n20 Tryz.prog Tryz.laysNm220_ren := {
  mixed := by kernel_rfl
  f20 := Tryz.func55.trans (congrArg some (by kernel_rfl))
  t0 := Tryz.underlying0
  a0 := Tryz.isAgg0
  z0 := Tryz.sizeOf0
  v0 := Tryz.zeroValue0
  t3 := Tryz.underlying3
  a3 := Tryz.isAgg3
  z3 := Tryz.sizeOf3
  v3 := Tryz.zeroValue3
  t4 := Tryz.underlying4
  a4 := Tryz.isAgg4
  z4 := Tryz.sizeOf4
  v4 := Tryz.zeroValue4
  t22 := Tryz.underlying24
  a22 := Tryz.isAgg24
  z22 := Tryz.sizeOf24
  v22 := Tryz.zeroValue24
  i3 := by kernel_rfl }
open Go.RowKit Go.Lib Go.Sort in
theorem Tryz.slices_Compact_int (blk off cap : Nat) (zs : List Int) (w : World) (hH : Holds (Value.int .i64) w blk off zs.toArray) (hsz : zs.length ≤ 9223372036854775807) (hcap : zs.length ≤ cap) :
    Calls Tryz.prog 55 #[.slice (some ⟨blk, off, none⟩) zs.length cap] w fun e w' => e = .returned (.slice (some ⟨blk, off, none⟩) (Lib.compact zs).length cap) ∧ ∃ q, w' = putRow (Value.int .i64) (Sort.ahead w q) blk off (Lib.compact zs ++ List.replicate (zs.length - (Lib.compact zs).length) 0).toArray := Any.slices_Compact_int Tryz.laysNm220 blk off cap zs w hH hsz hcap
open Go.RowKit Go.Lib Go.Sort in
theorem Tryz.slices_Compact_int_empty (a : Option Addr) (cap : Nat) (w : World) :
    Calls Tryz.prog 55 #[.slice a 0 cap] w fun e w' => e = .returned (.slice a 0 cap) ∧ w' = w := Any.slices_Compact_int_empty Tryz.laysNm220 a cap w
open Go.RowKit Go.Sort in
theorem Tryz.slices_Sort_int_none (p : Option Addr) (cap : Nat) (w : World) :
    Calls Tryz.prog 54 #[.slice p 0 cap] w fun e w' => e = .returned (.tuple #[]) ∧ w' = w := Any.slices_Sort_int_none Tryz.lays189 p cap w
end Go.Proofs
namespace Go.Proofs.YtbgacfdnmbhloaaGreatDoor.Wk
open Go Go.RowKit Sl
set_option linter.unusedVariables false
set_option linter.unusedSimpArgs false
set_option maxRecDepth 20000
section
variable {xs ys : List Int} {k : Nat} {x : Int}
theorem notin_next (h : ¬ x ∈ xs.take k) {y : Int} (hy : xs[k]? = some y) (e : ¬ y = x) : ¬ x ∈ xs.take (k + 1) := by
 rw [List.take_add_one, hy]
 simp only [Option.toList_some, List.mem_append, List.mem_singleton, not_or]
 exact ⟨h, fun h => e h.symm⟩
theorem mem_at {y : Int} (hy : xs[k]? = some y) (e : y = x) : x ∈ xs := by
 subst e; exact List.mem_of_getElem? hy
theorem notin_all (h : ¬ x ∈ xs.take k) (hk : k ≤ xs.length) (h1 : ¬ (k : Int) < xs.length) : ¬ x ∈ xs := by
 have : k = xs.length := by omega
 subst this
 rwa [List.take_length] at h
end
theorem l8Has_c {W : World} {va : Value} {xs : List Int} {x : Int} (ha : intEK.Rd W va xs) : Calls Tryz.prog 37 #[va, vi x] W (Ret fun v w' => v = .bool (decide (x ∈ xs)) ∧ Below W.heap.size W w') := by
 refine cfr Tryz.func37 Tryz.ntmps37 fun a hF => ?_
 have hS := Sep.refl W
 obtain ⟨A_a, q_a, rfl, hq_a, hn_a⟩ := ha.sl; unfold maxLen at hn_a
 refine rg hF rfl fun a hF => wp_seq_k fun K2 hK2 => rg hF rfl fun a hF => wp_block <| wp_loop_g (σ := Nat) (fun k a w => k ≤ xs.length ∧ ¬ x ∈ xs.take k ∧ Sep W [] w ∧ Fr 18 [(5, vi k), (1, vi x), (0, .slice A_a xs.length q_a)] a) (fun k => xs.length - k) 0 ?_ ?_
 · exact ⟨Nat.zero_le _, by simp, hS, (((hF.nil.keep hF (t := 0) rfl).keep hF (t := 1) rfl).keep hF (t := 5) rfl)⟩
 rintro k a w ⟨hk, hn, hS, hF⟩
 refine wp_seq_k fun K4 hK4 => rg hF rfl fun a hF => ?_
 first | refine wc_dec (hF.ev rfl) (fun c9 => ?_) (fun c9 => ?_) | refine wc_ndec (hF.ev rfl) (fun c9 => ?_) (fun c9 => ?_) | refine wc_b (hF.ev rfl) (fun c9 => ?_) (fun c9 => ?_)
 ·
  have hlt : k < xs.length := by omega
  obtain ⟨y, hy⟩ : ∃ y, xs[k]? = some y := ⟨_, List.getElem?_eq_getElem hlt⟩
  refine wp_skip <| hK4 _ _ <| wp_seq_k fun K6 hK6 => wp_block <| ws fun K7 hK7 => ga 2 hF rfl fun a hF => ?_
  obtain ⟨g14, o14, m14, q14, hv14, hm14, hl14, hc14⟩ := Rd.idxF (hS.rd ha) hy
  refine wl hF rfl rfl rfl (r_index sl24 ((hF.ev rfl).trans hv14) (hF.ev rfl) (by omega) (by omega)) fun a hF => wl hF rfl rfl rfl (r_load1 sc3 (hF.ev rfl) (hc14 0 _ rfl)) fun a hF => ge hK7 hF rfl fun a hF => ?_
  first | refine wc_dec (hF.ev rfl) (fun c17 => ?_) (fun c17 => ?_) | refine wc_ndec (hF.ev rfl) (fun c17 => ?_) (fun c17 => ?_) | refine wc_b (hF.ev rfl) (fun c17 => ?_) (fun c17 => ?_)
  ·
   refine rg hF rfl fun a hF => ?_
   refine xr ?_
   refine ret1 rfl hF rfl ⟨congrArg Value.bool (Eq.symm ?_), hS.old⟩
   first | exact decide_eq_true (mem_at hy c17) | exact decide_eq_false (notin_all hn hk (by assumption))
  refine wp_skip ?_
  refine xt ?_
  refine hK6 _ _ <| rl hF rfl fun a hF => ?_
  refine xt ?_
  exact ⟨k + 1, ⟨by omega, notin_next hn hy c17, hS, (((hF.nil.keep hF (t := 0) rfl).keep hF (t := 1) rfl).keepE hF (t := 5) rfl (wk (by omega)))⟩, by omega⟩
 refine wp_exit ?_
 refine xt ?_
 refine hK2 _ _ <| rg hF rfl fun a hF => ?_
 refine xr ?_
 refine ret1 rfl hF rfl ⟨congrArg Value.bool (Eq.symm ?_), hS.old⟩
 first | exact decide_eq_true (mem_at hy c17) | exact decide_eq_false (notin_all hn hk (by assumption))
set_option maxRecDepth 20000
section
variable {s : Sl.State} {k j : Nat} {t : Sl.Thread}
def freeUp (s : Sl.State) (n : Nat) : List Int := ((List.range n).filter fun (i : Nat) => s.threads.any fun t => decide ((i : Int) ∈ t.free)).map fun (i : Nat) => (i : Int)
def freeNodes (s : Sl.State) : List Int := if stateOk s = true then freeUp s s.config.capacity.toNat else []
def freeIn (s : Sl.State) (k j : Nat) : List Int := freeUp s k ++ (if (s.threads.take j).any (fun t => decide ((k : Int) ∈ t.free)) = true then [(k : Int)] else [])
def catF (s : Sl.State) (k : Nat) : List Int := (s.threads.take k).flatMap fun t => t.free
theorem freeUp_lt {x : Int} (h : x ∈ freeUp s k) : 0 ≤ x ∧ x < k := by
 unfold freeUp at h
 obtain ⟨i, hi, rfl⟩ := List.mem_map.1 h
 have := List.mem_range.1 (List.mem_filter.1 hi).1
 omega
theorem freeUp_len : (freeUp s k).length ≤ k := by
 unfold freeUp
 rw [List.length_map]
 exact Nat.le_trans (List.length_filter_le _ _) (by simp)
theorem freeIn_len : (freeIn s k j).length ≤ k + 1 := by
 have := freeUp_len (s := s) (k := k)
 unfold freeIn
 rw [List.length_append]
 split <;> simp <;> omega
theorem freeIn_zero : freeIn s k 0 = freeUp s k := by simp [freeIn]
theorem freeIn_mem : (k : Int) ∈ freeIn s k j ↔ (s.threads.take j).any (fun t => decide ((k : Int) ∈ t.free)) = true := by
 unfold freeIn
 rw [List.mem_append]
 constructor
 · rintro (h | h)
   · have := freeUp_lt h; omega
   · split at h
     · assumption
     · simp at h
 · intro h; right; rw [if_pos h]; simp
theorem freeIn_yes (hx : s.threads[j]? = some t) (h1 : (k : Int) ∈ t.free) (h2 : ¬ (k : Int) ∈ freeIn s k j) : freeIn s k (j + 1) = freeIn s k j ++ [(k : Int)] := by
 rw [freeIn_mem] at h2
 unfold freeIn
 rw [if_neg h2, List.append_nil, List.take_add_one, hx, List.any_append, if_pos (by simp [h1])]
theorem freeIn_no (hx : s.threads[j]? = some t) (h : ¬ (k : Int) ∈ t.free ∨ (k : Int) ∈ freeIn s k j) : freeIn s k (j + 1) = freeIn s k j := by
 rw [freeIn_mem] at h
 unfold freeIn
 rw [List.take_add_one, hx, List.any_append]
 rcases h with h | h
 · simp [h]
 · rw [h]; simp
theorem freeIn_done (h : s.threads.length ≤ j) : freeIn s k j = freeUp s (k + 1) := by
 unfold freeIn freeUp
 rw [List.take_of_length_le h, List.range_succ, List.filter_append, List.map_append]
 congr 1
 cases e : (s.threads.any fun t => decide ((k : Int) ∈ t.free)) <;> simp [e]
theorem catF_next (hx : s.threads[k]? = some t) : catF s (k + 1) = catF s k ++ t.free := by
 unfold catF
 rw [List.take_add_one, hx, List.flatMap_append]; simp
theorem catF_crow : ∀ (ts : List Sl.Thread), (ts.flatMap fun t => t.free).length ≤ crow Sl.Thread.size ts
  | [] => by simp [crow]
  | t :: ts => by
    have := catF_crow ts
    have h1 : t.free.length ≤ t.size := by unfold Sl.Thread.size; omega
    simp only [List.flatMap_cons, List.length_append, crow]
    omega
theorem catF_len : (catF s k).length ≤ s.size := by
 have h1 := catF_crow (s.threads.take k)
 have h2 : crow Sl.Thread.size (s.threads.take k) ≤ crow Sl.Thread.size s.threads := by
   have : ∀ (ts : List Sl.Thread) (k : Nat), crow Sl.Thread.size (ts.take k) ≤ crow Sl.Thread.size ts := by
     intro ts
     induction ts with
     | nil => intro k; simp
     | cons t ts ih => intro k; cases k with
       | zero => simp [crow]
       | succ k => have := ih k; simp only [List.take_succ_cons, crow]; omega
   exact this _ _
 show ((s.threads.take k).flatMap fun t => t.free).length ≤ s.cells.length + s.generations.length + (s.threads.length + crow Sl.Thread.size s.threads)
 omega
theorem freeUp_sorted : (freeUp s k).Pairwise (· < ·) := by
 unfold freeUp
 rw [List.pairwise_map]
 refine (List.Pairwise.filter _ ?_)
 refine List.pairwise_iff_getElem.2 (fun i j hi hj hij => ?_)
 simp; omega
theorem freeNodes_eq (hs : stateOk s = true) (h : s.threads.length ≤ k) : Lib.compact (sortL (catF s k)) = freeNodes s := by
 have hp := compact_props (sortL_sorted (catF s k))
 unfold freeNodes
 rw [if_pos hs]
 refine eq_of_sorted hp.1 freeUp_sorted (fun x => ?_)
 rw [hp.2, sortL_mem]
 unfold catF freeUp
 rw [List.take_of_length_le h, List.mem_flatMap, List.mem_map]
 constructor
 · rintro ⟨t, ht, hx⟩
   have hs' := hs
   unfold stateOk at hs'; simp only [Bool.and_eq_true] at hs'
   have h2 := List.all_eq_true.1 hs'.1.1.1.2 t ht
   unfold threadOk at h2; simp only [Bool.and_eq_true] at h2
   have h3 := h2.1.1.1.1.1
   unfold freeOk at h3
   have h4 := List.all_eq_true.1 h3 x hx
   simp only [decide_eq_true_eq] at h4
   refine ⟨x.toNat, List.mem_filter.2 ⟨List.mem_range.2 (by omega), List.any_eq_true.2 ⟨t, ht, ?_⟩⟩, by omega⟩
   rw [show ((x.toNat : Nat) : Int) = x by omega]; exact decide_eq_true hx
 · rintro ⟨i, hi, rfl⟩
   obtain ⟨t, ht, hx⟩ := List.any_eq_true.1 (List.mem_filter.1 hi).2
   exact ⟨t, ht, by simpa using hx⟩
theorem freeNodes_len : (freeNodes s).length ≤ 24 := by
 unfold freeNodes
 split
 · rename_i h
   have hok := (stateOk_shape h).1
   have := freeUp_len (s := s) (k := s.config.capacity.toNat)
   unfold Config.ok at hok; omega
 · simp
theorem sort_c {W w : World} {l : List Res} {A : Option Addr} {n c : Nat} {xs : List Int} (hS : Sep W (Own intEK (.slice A n c) xs :: l) w) (hz : xs.length < 4611686018427387904) : Calls Tryz.prog 54 #[.slice A n c] w (Ret fun u w' => u = .tuple #[] ∧ Sep W (Own intEK (.slice A n c) (sortL xs) :: l) w') := by
 obtain ⟨A', n', c', e, h2, h3, h4⟩ := hS.sat.get (i := 0) rfl
 simp only [Value.slice.injEq] at e
 obtain ⟨rfl, rfl, rfl⟩ := e
 by_cases hc : c = 0
 · have hx : xs = [] := by
     rcases h4 with h | ⟨g, o, cur, T, vs, e, hg, hh, hr, _⟩
     · exact h.2
     · have := hr.fits; exact List.length_eq_zero_iff.1 (by omega)
   subst hx
   obtain rfl : n = 0 := h2
   refine (Tryz.slices_Sort_int_none A c w).mono ?_
   rintro e w' ⟨rfl, rfl⟩
   exact ⟨_, rfl, rfl, by rw [show sortL [] = [] from by simp [sortL]]; exact hS⟩
 · rcases h4 with h | ⟨g, o, cur, T, vs, rfl, hg, hh, hr, _⟩
   · exact absurd h.1 hc
   subst h2
   obtain ⟨hH, hb⟩ := hS.own_holds (q := 0) rfl hc
   refine (Tryz.slices_Sort_int g o c xs w hH hb hz).mono ?_
   rintro e w' ⟨rfl, m, os, rfl⟩
   exact ⟨_, rfl, rfl, hS.sorted (q := 0) (m := m) (os := os) rfl hc⟩
theorem compact_c {W w : World} {l : List Res} {A : Option Addr} {n c : Nat} {xs : List Int} (hS : Sep W (Own intEK (.slice A n c) xs :: l) w) : Calls Tryz.prog 55 #[.slice A n c] w (Ret fun u w' => u = .slice A (Lib.compact xs).length c ∧ Sep W (Own intEK (.slice A (Lib.compact xs).length c) (Lib.compact xs) :: l) w') := by
 obtain ⟨A', n', c', e, h2, h3, h4⟩ := hS.sat.get (i := 0) rfl
 simp only [Value.slice.injEq] at e
 obtain ⟨rfl, rfl, rfl⟩ := e
 by_cases hc : c = 0
 · have hx : xs = [] := by
     rcases h4 with h | ⟨g, o, cur, T, vs, e, hg, hh, hr, _⟩
     · exact h.2
     · have := hr.fits; exact List.length_eq_zero_iff.1 (by omega)
   subst hx
   obtain rfl : n = 0 := h2
   refine (Tryz.slices_Compact_int_empty A c w).mono ?_
   rintro e w' ⟨rfl, rfl⟩
   have e0 : Lib.compact ([] : List Int) = [] := by simp [Lib.compact, Lib.compactUpTo]
   exact ⟨_, rfl, by rw [e0]; rfl, by rw [e0]; exact hS⟩
 · rcases h4 with h | ⟨g, o, cur, T, vs, rfl, hg, hh, hr, _⟩
   · exact absurd h.1 hc
   subst h2
   obtain ⟨hH, hb⟩ := hS.own_holds (q := 0) rfl hc
   have hl : xs.length ≤ c := hr.fits
   unfold maxLen at h3
   refine (Tryz.slices_Compact_int g o c xs w hH (by omega) hl).mono ?_
   rintro e w' ⟨rfl, m, rfl⟩
   exact ⟨_, rfl, rfl, hS.compacted (q := 0) (m := m) rfl hc compact_len rfl⟩
end
theorem specFree_c {W : World} {s : Sl.State} {cs : List Value} (hm : stateEK.K W s cs) (hw : s.wf) (hz : (s.size : Int) ≤ 1048576) : Calls Tryz.prog 14 #[.agg cs.toArray] W (Ret (Mk W (fun (γ : Slv) => sv γ) (fun γ => [Own intEK (sv γ) (freeNodes s)]))) := by
 refine cfr Tryz.func14 Tryz.ntmps14 fun a hF => ?_
 have hS := Sep.refl W
 obtain ⟨v0, v1, v2, rfl, r0, r1, r2⟩ := hm
 have hm : stateEK.K W s (s.encv v0 v1 v2) := ⟨_, _, _, rfl, r0, r1, r2⟩
 obtain ⟨A_a, q_a, rfl, hq_a, hn_a⟩ := r0.sl; unfold maxLen at hn_a
 obtain ⟨A_b, q_b, rfl, hq_b, hn_b⟩ := r1.sl; unfold maxLen at hn_b
 obtain ⟨A_c, q_c, rfl, hq_c, hn_c⟩ := r2.sl; unfold maxLen at hn_c
 refine ws fun K1 hK1 => wl_box (cs := [_, _, _, _, _, _, _, _, _, _, _, _, _]) hF hS rfl (hF.ev rfl) rfl fun g1 w1 a hS _ hF => ge hK1 hF rfl fun a hF => ws fun K2 hK2 => wl_bslice intEK [] [] rfl hF hS rfl mk24 rfl trivial rfl rfl rfl rfl fun gl_6 w2 a hS hF => ge hK2 hF rfl fun a hF => wp_seq_k fun K3 hK3 => ?_
 refine rg hF rfl fun a hF => wp_block ?_
 replace hS := hS.pull (p := 0) rfl; dsimp only [List.eraseIdx] at hS
 have hL_ := ((hF.nil.keep hF (t := 2) rfl).keep hF (t := 1) rfl)
 refine wp_loop_m (σ := Nat × Slv) (fun z L_ => (4, vi z.1) :: (3, sv z.2) :: L_) (fun z l_ => (Own intEK (sv z.2) (freeUp s z.1)) :: l_) (fun z => (z.1 = 0 ∨ (stateOk s = true ∧ z.1 ≤ s.config.capacity.toNat))) (fun z => s.config.capacity.toNat - z.1) (0, (_, _, _)) (hS) ((hL_.keepE hF (t := 3) rfl rfl).keepE hF (t := 4) rfl rfl) ?_ ?_
 · exact Or.inl rfl
 rintro ⟨k, Ao, no, co⟩ a w3 hk hS hF; try dsimp only at hF; try dsimp only at hS; try dsimp only at hk
 have hno := hS.own_len (q := 0) (s := (Ao, no, co)) rfl
 replace hS : Sep W (Own intEK (.slice Ao no co) _ :: _) _ := hS
 refine wp_seq_k fun K5 hK5 => ws fun K6 hK6 => gb 6 1 hF hS rfl rfl rfl fun a hF => ?_
 apply wa 3 12 15 hF hS
 ·
  intro hg12 a hF
  refine gb 1 1 hF hS rfl rfl rfl fun a hF => ckr hF hS rfl (specIsState_c (hS.k hm) hw (by omega)) fun w4 a hS hF => ?_
  exact je 3 hF hS rfl rfl rfl rfl
 intro a w5 hF hS
 refine wl_nil <| hK6 _ _ <| cx 15 hF rfl (fun c15 hF => ?_) fun c15 hF => ?_
 ·
  obtain ⟨hkc, hso⟩ := c15
  have hok := (stateOk_shape hso).1
  have hb := hok; unfold Config.ok at hb
  refine wp_skip <| hK5 _ _ <| wp_seq_k fun K7 hK7 => wp_block <| rg hF rfl fun a hF => wp_block ?_
  rw [← freeIn_zero (s := s) (k := k)] at hS
  replace hS := hS.pull (p := 0) rfl; dsimp only [List.eraseIdx] at hS
  have hL_ := (((hF.nil.keep hF (t := 4) rfl).keep hF (t := 2) rfl).keep hF (t := 1) rfl)
  refine wp_loop_m (σ := Nat × Slv) (fun y L_ => (5, vi y.1) :: (3, sv y.2) :: L_) (fun y l_ => (Own intEK (sv y.2) (freeIn s k y.1)) :: l_) (fun y => (y.1 ≤ s.threads.length)) (fun y => s.threads.length - y.1) (0, (Ao, no, co)) (hS) ((hL_.keepE hF (t := 3) rfl rfl).keepE hF (t := 5) rfl rfl) ?_ ?_
  · exact Nat.zero_le _
  rintro ⟨j, Aq, nq, cq⟩ a w6 hj hS hF; try dsimp only at hF; try dsimp only at hS; try dsimp only at hj
  have hnq := hS.own_len (q := 0) (s := (Aq, nq, cq)) rfl
  replace hS : Sep W (Own intEK (.slice Aq nq cq) _ :: _) _ := hS
  have hfl := freeIn_len (s := s) (k := k) (j := j)
  refine wp_seq_k fun K9 hK9 => rh 1 hF hS rfl rfl rfl fun a hF => cx 22 hF rfl (fun c22 hF => ?_) fun c22 hF => ?_
  ·
   have hlt2 : j < s.threads.length := by omega
   have hx2 := at0_nat hlt2
   refine wp_skip <| hK9 _ _ <| wp_seq_k fun K11 hK11 => wp_block <| ws fun K12 hK12 => gb 3 1 hF hS rfl rfl rfl fun a hF => ?_
   obtain ⟨g28, o28, m28, q28, cs28, hv28, hm28, hl28, hk28, hz28, hc28⟩ := Rd.at (r2) (a := a) (X := .tmp 27) (hF.ev rfl) (by omega) (by omega)
   have hkk28 := hk28; obtain ⟨v28_0, v28_1, v28_2, v28_3, v28_4, rfl, r28_0, r28_1, r28_2, r28_3, r28_4⟩ := hk28
   refine wl hF rfl rfl rfl (r_index sl31 ((hF.ev rfl).trans hv28) (hF.ev rfl) (by omega) (by first | omega | (simp at hm28; omega))) fun a hF => ?_
   refine ga 1 hF rfl fun a hF => wl hF rfl rfl rfl (r_load1 sc24 (hF.ev rfl) (cellB hS.old (hc28 15 _ rfl))) fun a hF => ga 1 hF rfl fun a hF => ckr hF hS rfl (l8Has_c (hS.rd r28_1)) fun w7 a hS hF => ga 1 hF rfl fun a hF => ?_
   apply wa 5 33 38 hF hS
   ·
    intro hg33 a hF
    refine ga 2 hF rfl fun a hF => ckr hF hS rfl (l8Has_c (hS.own_rd (i := 0) rfl)) fun w8 a hS hF => ?_
    exact je 5 hF hS rfl rfl rfl rfl
   intro a w9 hF hS
   refine wl_nil <| hK12 _ _ <| cx 38 hF rfl (fun c38 hF => ?_) fun c38 hF => ?_
   ·
    refine wp_region_lit <| ga 2 hF rfl fun a hF => wl_bslice intEK [vi (k : Int)] [(k : Int)] rfl hF hS rfl mk24 rfl ⟨rfl, (hF.ev rfl), trivial⟩ rfl rfl rfl rfl fun gl_41 w10 a hS hF => ?_
    refine wl_append (q := 1) hF hS rfl rfl (hS.own_rd (i := 0) rfl) mk24 rfl (hF.ev rfl) (hF.ev rfl) (by simp; omega) (by unfold maxLen; simp; omega) ?_; intro A_42 c_42 w11 a hS_ hF; replace hS := hS_; clear hS_; dsimp only [List.set, List.length_cons, List.length_nil] at hS hF
    refine ga 1 hF rfl fun a hF => wl_nil ?_
    refine xt ?_
    refine hK11 _ _ <| rl hF rfl fun a hF => ?_
    refine xt ?_
    have e_ := freeIn_yes hx2 c38.1 c38.2; rw [← e_] at hS
    refine ⟨(j + 1, (_, _, _)), (by dsimp only; omega), (hS.pick [1, 2] (by decide) rfl), (((((hF.nil.keep hF (t := 4) rfl).keep hF (t := 2) rfl).keep hF (t := 1) rfl).keepE hF (t := 3) rfl rfl).keepE hF (t := 5) rfl (wk (by omega))), by dsimp only; omega⟩
   refine wp_skip ?_
   refine xt ?_
   refine hK11 _ _ <| rl hF rfl fun a hF => ?_
   refine xt ?_
   have e_ := freeIn_no hx2 (by rcases c38 with c | c; exact .inl c; exact .inr (by simpa using c)); rw [← e_] at hS
   refine ⟨(j + 1, (_, _, _)), (by dsimp only; omega), hS, (((((hF.nil.keep hF (t := 4) rfl).keep hF (t := 2) rfl).keep hF (t := 1) rfl).keepE hF (t := 3) rfl rfl).keepE hF (t := 5) rfl (wk (by omega))), by dsimp only; omega⟩
  refine wp_exit ?_
  refine xt ?_
  refine hK7 _ _ <| rl hF rfl fun a hF => ?_
  refine xt ?_
  rw [freeIn_done (by omega)] at hS
  refine ⟨(k + 1, (_, _, _)), (.inr ⟨hso, by dsimp only; omega⟩), hS, ((((hF.nil.keep hF (t := 2) rfl).keep hF (t := 1) rfl).keepE hF (t := 3) rfl rfl).keepE hF (t := 4) rfl (wk (by omega))), by dsimp only; omega⟩
 refine wp_exit ?_
 refine xt ?_
 refine hK3 _ _ <| rg hF rfl fun a hF => ?_
 refine xr ?_
 have e_ : freeNodes s = freeUp s k := by
   unfold freeNodes
   rcases hk with h | h
   · subst h
     rcases c15 with c | c
     · split
       · rename_i hso; have hok := (stateOk_shape hso).1; unfold Config.ok at hok; omega
       · simp [freeUp]
     · rw [if_neg (by rw [c]; decide)]; simp [freeUp]
   · rw [if_pos h.1]
     rcases c15 with c | c
     · congr 1; omega
     · rw [h.1] at c; cases c
 exact ret1 rfl hF rfl ⟨(_, _, _), rfl, by rw [e_]; exact hS.pick [0] (by decide) rfl⟩
theorem implFree_c {W : World} {s : Sl.State} {cs : List Value} (hm : stateEK.K W s cs) (hw : s.wf) (hz : (s.size : Int) ≤ 1048576) : Calls Tryz.prog 23 #[.agg cs.toArray] W (Ret (Mk W (fun (γ : Slv) => sv γ) (fun γ => [Own intEK (sv γ) (freeNodes s)]))) := by
 refine cfr Tryz.func23 Tryz.ntmps23 fun a hF => ?_
 have hS := Sep.refl W
 obtain ⟨v0, v1, v2, rfl, r0, r1, r2⟩ := hm
 have hm : stateEK.K W s (s.encv v0 v1 v2) := ⟨_, _, _, rfl, r0, r1, r2⟩
 obtain ⟨A_a, q_a, rfl, hq_a, hn_a⟩ := r0.sl; unfold maxLen at hn_a
 obtain ⟨A_b, q_b, rfl, hq_b, hn_b⟩ := r1.sl; unfold maxLen at hn_b
 obtain ⟨A_c, q_c, rfl, hq_c, hn_c⟩ := r2.sl; unfold maxLen at hn_c
 refine ws fun K1 hK1 => wl_box (cs := [_, _, _, _, _, _, _, _, _, _, _, _, _]) hF hS rfl (hF.ev rfl) rfl fun g1 w1 a hS _ hF => ge hK1 hF rfl fun a hF => wp_seq_k fun K2 hK2 => ws fun K3 hK3 => gb 1 0 hF hS rfl rfl rfl fun a hF => ckr hF hS rfl (implIsState_c (hS.k hm) hw (by omega)) fun w2 a hS hF => ?_
 refine ge hK3 hF rfl fun a hF => cx 8 hF rfl (fun c8 hF => ?_) fun c8 hF => ?_
 ·
  refine rg hF rfl fun a hF => ?_
  refine xr ?_
  have e_ : freeNodes s = [] := if_neg (by rw [c8]; decide)
  exact ret1 rfl hF rfl ⟨(none, 0, 0), rfl, by rw [e_]; exact (hS.own_nil intEK).pick [0] (by decide) rfl⟩
 refine wp_skip <| hK2 _ _ <| ws fun K5 hK5 => wl_bslice intEK [] [] rfl hF hS rfl mk24 rfl trivial rfl rfl rfl rfl fun gl_9 w3 a hS hF => ge hK5 hF rfl fun a hF => wp_seq_k fun K6 hK6 => rh 1 hF hS rfl rfl rfl fun a hF => ?_
 refine wp_block ?_
 replace hS := hS.pull (p := 0) rfl; dsimp only [List.eraseIdx] at hS
 have hL_ := (((hF.nil.keep hF (t := 12) rfl).keep hF (t := 11) rfl).keep hF (t := 2) rfl)
 refine wp_loop_m (σ := Nat × Slv) (fun z L_ => (13, vi z.1) :: (3, sv z.2) :: L_) (fun z l_ => (Own intEK (sv z.2) (catF s z.1)) :: l_) (fun z => (z.1 ≤ s.threads.length)) (fun z => s.threads.length - z.1) (0, (_, _, _)) (hS) ((hL_.keepE hF (t := 3) rfl rfl).keepE hF (t := 13) rfl rfl) ?_ ?_
 · exact Nat.zero_le _
 rintro ⟨k, Aq, nq, cq⟩ a w4 hk hS hF; try dsimp only at hF; try dsimp only at hS; try dsimp only at hk
 have hnq := hS.own_len (q := 0) (s := (Aq, nq, cq)) rfl
 replace hS : Sep W (Own intEK (.slice Aq nq cq) _ :: _) _ := hS
 refine rg hF rfl fun a hF => wp_seq_k fun K9 hK9 => cx 14 hF rfl (fun c14 hF => ?_) fun c14 hF => ?_
 ·
  have hlt : k < s.threads.length := by omega
  have hx := at0_nat hlt
  have hcl := catF_len (s := s) (k := k + 1); rw [catF_next hx, List.length_append] at hcl
  refine wp_skip <| hK9 _ _ <| wp_seq_k fun K10 hK10 => wp_block <| ws fun K11 hK11 => ?_
  obtain ⟨g15, o15, m15, q15, cs15, hv15, hm15, hl15, hk15, hz15, hc15⟩ := Rd.at (r2) (a := a) (X := .tmp 13) (hF.ev rfl) (by omega) (by omega)
  have hkk15 := hk15; obtain ⟨v15_0, v15_1, v15_2, v15_3, v15_4, rfl, r15_0, r15_1, r15_2, r15_3, r15_4⟩ := hk15
  obtain ⟨A15_0, q15_0, rfl, hq15_0, hn15_0⟩ := r15_0.sl; unfold maxLen at hn15_0
  obtain ⟨A15_1, q15_1, rfl, hq15_1, hn15_1⟩ := r15_1.sl; unfold maxLen at hn15_1
  obtain ⟨A15_2, q15_2, rfl, hq15_2, hn15_2⟩ := r15_2.sl; unfold maxLen at hn15_2
  obtain ⟨A15_3, q15_3, rfl, hq15_3, hn15_3⟩ := r15_3.sl; unfold maxLen at hn15_3
  obtain ⟨A15_4, q15_4, rfl, hq15_4, hn15_4⟩ := r15_4.sl; unfold maxLen at hn15_4
  refine wl hF rfl rfl rfl (r_index sl31 ((hF.ev rfl).trans hv15) (hF.ev rfl) (by omega) (by first | omega | (simp at hm15; omega))) fun a hF => ?_
  refine wl hF rfl rfl rfl (r_loadn ag68 (hF.ev rfl) (fun j_ u_ hu_ => cellB hS.old (hc15 j_ u_ hu_)) sz68) fun a hF => wl_alloc hF hS rfl zr68 fun g2 w5 a hS _ hF => ww 0 hF hS rfl rfl rfl rfl rfl rfl fun w6 hS => wl_nil <| hK11 _ _ <| wp_region_lit <| gb 3 0 hF hS rfl rfl rfl fun a hF => ?_
  refine wl_append (q := 1) hF hS rfl rfl (hS.rd r15_1) mk24 rfl (hF.ev rfl) (hF.ev rfl) (by omega) (by unfold maxLen; omega) ?_; intro A_20 c_20 w7 a hS_ hF; replace hS := hS_; clear hS_; dsimp only [List.set, List.length_cons, List.length_nil] at hS hF
  refine ga 1 hF rfl fun a hF => wl_nil ?_
  refine xt ?_
  refine hK10 _ _ <| rl hF rfl fun a hF => ?_
  refine xt ?_
  rw [← catF_next hx] at hS
  refine ⟨(k + 1, (_, _, _)), (by dsimp only; omega), (hS.pm 3 [1, 2] rfl), (((((hF.nil.keep hF (t := 12) rfl).keep hF (t := 11) rfl).keep hF (t := 2) rfl).keepE hF (t := 3) rfl rfl).keepE hF (t := 13) rfl (wk (by omega))), by dsimp only; omega⟩
 have hcl := catF_len (s := s) (k := k)
 refine wp_exit ?_
 refine xt ?_
 refine hK6 _ _ <| ws fun K12 hK12 => ga 1 hF rfl fun a hF => ?_
 refine ck hF rfl (sort_c hS (by omega)) ?_; rintro v w8 a ⟨rfl, hS⟩ hF
 refine wl_nil <| hK12 _ _ <| ws fun K13 hK13 => ga 1 hF rfl fun a hF => ?_
 refine ck hF rfl (compact_c hS) ?_; rintro v w9 a ⟨rfl, hS⟩ hF
 refine ge hK13 hF rfl fun a hF => ?_
 refine xr ?_
 have e_ := freeNodes_eq (k := k) c8 (by omega)
 exact ret1 rfl hF rfl ⟨(Aq, (Lib.compact (sortL (catF s k))).length, cq), rfl, by rw [← e_]; exact hS.pick [0] (by decide) rfl⟩
end Go.Proofs.YtbgacfdnmbhloaaGreatDoor.Wk
namespace Go.Proofs.YtbgacfdnmbhloaaGreatDoor.Sl
open Go Go.RowKit
set_option linter.unusedVariables false
set_option linter.unusedSimpArgs false
/-- a string of bytes -/
abbrev vs (l : List UInt8) : Value := .string ⟨l.toArray⟩
section
variable {P : Program} {ρ : Operand → Value} {w : World} {D : Option Tmp} {ty t t' : TypeId} {ps : String} {af : Array Edge} {gd : Option (Nat × Bool)} {x y : Operand}
theorem r_sadd {a b : List UInt8} (hx : ρ x = vs a) (hy : ρ y = vs b) (h : a.length + b.length ≤ 9223372036854775807) : (execOp ρ ⟨D, .binOp .add t x y t', ty, ps, af, gd⟩).run P w = .ok (.value (vs (a ++ b))) w := by
 have h1 := run_string_add_sum (P := P) w ⟨a.toArray⟩ ⟨b.toArray⟩ (by simp [ByteArray.size]; omega)
 rw [ByteArray.mk_append_mk] at h1
 simp [execOp, hx, hy, binOp_string_add, h1, go_sem]
theorem r_sneq {a b : List UInt8} (hx : ρ x = vs a) (hy : ρ y = vs b) : (execOp ρ ⟨D, .binOp .neq t x y t', ty, ps, af, gd⟩).run P w = .ok (.value (.bool (!decide (a = b)))) w := by
 rw [r_neqs hx hy]
 have : (a == b) = decide (a = b) := by by_cases h : a = b <;> simp [h]
 simp [this]
/-- a row of one byte, as a string -/
theorem r_s1 {e : TypeId} {g o c : Nat} {n : Int} (hs : P.underlying t = some (.slice e)) (he : P.underlying e = some (.int .u8)) (hd : P.underlying t' = some .string) (hx : ρ x = .slice (some ⟨g, o, none⟩) 1 c) (hc : w.cell? ⟨g, o, none⟩ = some (.int .u8 n)) (h0 : 0 ≤ n) (h1 : n < 256) :
    (execOp ρ ⟨D, .convert t t' x, ty, ps, af, gd⟩).run P w = .ok (.value (vs [UInt8.ofNat n.toNat])) w := by
  have hn : (((UInt8.ofNat n.toNat).toNat : Nat) : Int) = n := by
    rw [UInt8.toNat_ofNat']
    omega
  have h := run_convert_bytes_back (P := P) w t t' e ⟨g, o, none⟩ c [UInt8.ofNat n.toNat] hs he hd (fun j hj => by
    have : j = 0 := by simpa using hj
    subst this
    simp only [List.getElem_cons_zero, hn]
    exact hc)
  simp only [List.length_cons, List.length_nil, Nat.zero_add] at h
  simp [execOp, hx, h, go_sem]
theorem r_s1o {e : TypeId} {g o c : Nat} {n : Int} (hs : P.underlying t = some (.slice e)) (he : P.underlying e = some (.int .u8)) (hd : P.underlying t' = some .string) (hx : ρ x = .slice (some ⟨g, o, none⟩) 1 c) (hr : byteEK.Rd w (.slice (some ⟨g, o, none⟩) 1 c) [n]) (h0 : 0 ≤ n) (h1 : n < 256) :
    (execOp ρ ⟨D, .convert t t' x, ty, ps, af, gd⟩).run P w = .ok (.value (vs [UInt8.ofNat n.toNat])) w := by
  obtain ⟨g', o', m', c', e1, _, _, hc⟩ := Rd.idxF hr (i := 0) rfl
  simp only [Value.slice.injEq, Option.some.injEq, Addr.mk.injEq] at e1
  obtain ⟨⟨rfl, rfl, _⟩, _, _⟩ := e1
  exact r_s1 hs he hd hx (by have := hc 0 _ rfl; simpa using this) h0 h1
theorem r_neg {k : IntKind} {m : Int} (hx : ρ x = .int k m) : (execOp ρ ⟨D, .unOp .neg t x, ty, ps, af, gd⟩).run P w = .ok (.value (.int k (k.wrap (-m)))) w := by
 simp [execOp, hx, go_sem]
end
/-- the digits of a number, none for nought -/
def digs (u : Nat) : List UInt8 := if u = 0 then [] else Lib.decDigits u
theorem digs_step {u : Nat} (h : 0 < u) : digs u = digs (u / 10) ++ [UInt8.ofNat (48 + u % 10)] := by
 unfold digs
 rw [if_neg (by omega)]
 rw [Lib.decDigits]
 split
 · rename_i h1
   rw [if_pos (by omega), Nat.mod_eq_of_lt h1]; rfl
 · rename_i h1
   rw [if_neg (by omega)]
theorem digs_len {u : Nat} (h : u < 10000000000000000000) : (digs u).length ≤ 19 := by
 have key : ∀ k u, u < 10 ^ k → (digs u).length ≤ k := by
   intro k
   induction k with
   | zero => intro u hu; have : u = 0 := by omega
             subst this; simp [digs]
   | succ k ih =>
     intro u hu
     by_cases h0 : u = 0
     · subst h0; simp [digs]
     · rw [digs_step (by omega), List.length_append]
       have := ih (u / 10) (by rw [Nat.pow_succ] at hu; omega)
       simp; omega
 exact key 19 u (by simpa using h)
theorem itoa_pos {n : Int} (h : 0 < n) : Lib.itoa n = digs n.toNat := by
 unfold Lib.itoa digs; rw [if_neg (by omega), if_neg (by omega)]
theorem itoa_minus {n : Int} (h : n < 0) : Lib.itoa n = 45 :: digs n.natAbs := by
 unfold Lib.itoa digs; rw [if_pos h, if_neg (by omega)]
end Go.Proofs.YtbgacfdnmbhloaaGreatDoor.Sl
namespace Go.Proofs.YtbgacfdnmbhloaaGreatDoor.Wk
open Go Go.RowKit Sl
theorem iu3 : Tryz.prog.underlying 3 = some (.int .i64) := by kernel_rfl
theorem iu5 : Tryz.prog.underlying 5 = some (.int .u8) := by kernel_rfl
theorem mk73 : mkB Tryz.prog 73 = some ([.int .u8 0], 1, 1) := by kernel_rfl
set_option linter.unusedVariables false
set_option linter.unusedSimpArgs false
set_option maxRecDepth 20000
theorem tab_ext {W w : World} {nm : String} {k : IntKind} {zs : List Int} (h : Lib.TabIs Tryz.prog W nm k zs) (hB : Below W.heap.size W w) : Lib.TabIs Tryz.prog w nm k zs := by
 unfold Lib.TabIs World.var? at *
 cases hg : Tryz.prog.globalNamed nm with
 | none => simp [hg] at h
 | some g =>
   simp only [hg, Option.bind_some] at h ⊢
   have hlt : g < W.heap.size := by
     rcases Nat.lt_or_ge g W.heap.size with h' | h'
     · exact h'
     · rw [Array.getElem?_eq_none h'] at h; simp at h
   rw [hB.block g hlt]
   exact h
theorem itoa_c {W : World} {n : Int} (hT : Lib.TabIs Tryz.prog W "internal/strconv.uint64pow10" .u64 Lib.pow10Tab) (hn : int64 n) : Calls Tryz.prog 53 #[vi n] W (Ret fun v w' => v = vs (Lib.itoa n) ∧ Below W.heap.size W w') := by
 refine (Tryz.strconv_Itoa n (by unfold int64 at hn; omega) (by unfold int64 at hn; omega) W hT).mono ?_
 rintro e w' ⟨rfl, k, os, rfl⟩
 exact ⟨_, rfl, rfl, Lib.below_grow _ _ (Nat.le_refl _) _ _⟩
theorem join_c {W : World} {A : Option Addr} {n c : Nat} {xs : List ByteArray} {sep : List UInt8} (h : stringEK.Rd W (.slice A n c) xs) (hne : 0 < xs.length) (hN : xs.length ≤ 1000) (hl : (Lib.join (xs.map (·.data.toList)) sep).length ≤ 100000) : Calls Tryz.prog 19 #[.slice A n c, vs sep] W (Ret fun v w' => v = vs (Lib.join (xs.map (·.data.toList)) sep) ∧ Below W.heap.size W w') := by
 obtain ⟨A', q, e, h1, h2⟩ := h.sl
 simp only [Value.slice.injEq] at e
 obtain ⟨rfl, rfl, rfl⟩ := e
 have hcs : ∀ j x, xs[j]? = some x → ∃ g o, A = some ⟨g, o, none⟩ ∧ W.cell? ⟨g, o + j, none⟩ = some (.string x) := fun j x hx => by
   obtain ⟨g', o', m', c', e1, _, _, hc⟩ := Rd.idxF h (i := j) hx
   simp only [Value.slice.injEq] at e1
   have := hc 0 _ rfl
   exact ⟨g', o', e1.1, by simpa using this⟩
 obtain ⟨x0, hx0⟩ : ∃ x, xs[0]? = some x := ⟨_, List.getElem?_eq_getElem hne⟩
 obtain ⟨g, o, rfl, hc0⟩ := hcs 0 x0 hx0
 have hlt : g < W.heap.size := by
   rcases Nat.lt_or_ge g W.heap.size with h' | h'
   · exact h'
   · unfold World.cell? at hc0; simp [Array.getElem?_eq_none h'] at hc0
 refine (Tryz.strings_Join g o c xs ⟨sep.toArray⟩ W (fun j x hx => ?_) hlt (by omega) h1 (by simpa using Nat.le_trans hl (by decide))).mono ?_
 · obtain ⟨g', o', e1, hc⟩ := hcs j x hx
   simp only [Option.some.injEq, Addr.mk.injEq] at e1
   obtain ⟨rfl, rfl, _⟩ := e1
   exact hc
 · rintro e w' ⟨rfl, hB⟩
   exact ⟨_, rfl, by simp, hB⟩
theorem itoaL {n : Int} (h : int64 n) : (Lib.itoa n).length ≤ 21 := Lib.itoa_length_le n (by unfold int64 at h; omega) (by unfold int64 at h; omega)
/-! numbers -/
theorem fi_m {n : Int} : n.tmod 10 = if 0 ≤ n then ((n.natAbs % 10 : Nat) : Int) else -((n.natAbs % 10 : Nat) : Int) := by
 split
 · rename_i h0
   rw [Int.tmod_eq_emod_of_nonneg h0]; omega
 · rename_i h0
   have h1 : n.tmod 10 = -((-n).tmod 10) := by rw [Int.neg_tmod]; omega
   rw [h1, Int.tmod_eq_emod_of_nonneg (by omega)]; omega
theorem fi_d {n : Int} (h : int64 n) : (if n.tmod 10 < 0 then IntKind.i64.wrap (-(n.tmod 10)) else n.tmod 10) = ((n.natAbs % 10 : Nat) : Int) := by
 unfold int64 at h
 have h1 := @fi_m n
 split
 · rename_i hneg
   rw [w64_id (by split at h1 <;> omega) (by split at h1 <;> omega)]
   split at h1 <;> omega
 · rename_i hneg
   split at h1 <;> omega
theorem fi_q {n : Int} : (n.tdiv 10).natAbs = n.natAbs / 10 := by rw [Int.natAbs_tdiv]; rfl
theorem fi_i {n : Int} (h : int64 n) : int64 (n.tdiv 10) := by
 have := @fi_q n; unfold int64 at *; omega
theorem fi_w {n : Int} (h : int64 n) : Value.int .i64 (IntKind.i64.wrap (n.tdiv 10)) = vi (n.tdiv 10) := by
 have := fi_i h
 rw [w64_id (by unfold int64 at this; omega) (by unfold int64 at this; omega)]
theorem fi_next {n0 n d : Int} {out : List UInt8} (hi : digs n0.natAbs = digs n.natAbs ++ out) (hn : ¬ n = 0) (hd : d = ((n.natAbs % 10 : Nat) : Int)) : digs n0.natAbs = digs (n.tdiv 10).natAbs ++ ([UInt8.ofNat (48 + d).toNat] ++ out) := by
 rw [hi, digs_step (by omega), fi_q, hd, List.append_assoc, show ((48 : Int) + ((n.natAbs % 10 : Nat) : Int)).toNat = 48 + n.natAbs % 10 by omega]
theorem fi_len {n0 n : Int} {out : List UInt8} (h : int64 n0) (hi : digs n0.natAbs = digs n.natAbs ++ out) : out.length ≤ 19 := by
 have h1 := digs_len (u := n0.natAbs) (by unfold int64 at h; omega)
 rw [hi, List.length_append] at h1; omega
theorem fi_end {n0 : Int} {out : List UInt8} (h0 : ¬ n0 = 0) (hi : digs n0.natAbs = digs (0 : Int).natAbs ++ out) : Lib.itoa n0 = if n0 < 0 then 45 :: out else out := by
 have e : digs (0 : Int).natAbs = [] := by simp [digs]
 rw [e, List.nil_append] at hi
 split
 · rename_i h; rw [itoa_minus h, hi]
 · rename_i h; rw [itoa_pos (by omega), show n0.toNat = n0.natAbs by omega, hi]
theorem fi_zero : Lib.itoa 0 = [48] := by
 unfold Lib.itoa
 rw [if_neg (by omega), show (0 : Int).toNat = 0 from rfl, Lib.decDigits]; rfl
theorem w8 {d : Int} (h0 : 0 ≤ d) (h1 : d ≤ 9) : IntKind.u8.wrap (IntKind.i64.wrap (48 + d)) = 48 + d := by
 rw [w64_id (by omega) (by omega)]
 simp [IntKind.wrap, IntKind.bits, IntKind.signed, IntKind.min]; omega
theorem specFmtInt_c {W : World} {n0 : Int} (hn : int64 n0) : Calls Tryz.prog 12 #[vi n0] W (Ret fun v w' => v = vs (Lib.itoa n0) ∧ Below W.heap.size W w') := by
 refine cfr Tryz.func12 Tryz.ntmps12 fun a hF => ?_
 have hS := Sep.refl W
 refine rg hF rfl fun a hF => wp_seq_k fun K2 hK2 => rg hF rfl fun a hF => cx 7 hF rfl (fun c7 hF => ?_) fun c7 hF => ?_
 ·
  refine rg hF rfl fun a hF => ?_
  refine xr ?_
  first
    | (refine ret1 rfl hF rfl ⟨?_, hS.old⟩; rw [c7, fi_zero]; done)
    | (obtain rfl : n = 0 := by omega
       refine ret1 rfl hF rfl ⟨?_, hS.old⟩
       rw [fi_end c7 hinv]
       first | rw [if_pos c27]; rfl | rw [if_neg c27])
 refine wp_skip <| hK2 _ _ <| rg hF rfl fun a hF => rg hF rfl fun a hF => wp_seq_k fun K7 hK7 => wp_block ?_
 have hL_ := ((hF.nil.keep hF (t := 4) rfl).keep hF (t := 2) rfl)
 refine wp_loop_r (σ := Int × List UInt8) (fun z L_ => (0, vi z.1) :: (3, vs z.2) :: L_) (fun z => (int64 z.1) ∧ (digs n0.natAbs = digs z.1.natAbs ++ z.2)) (fun z => z.1.natAbs) (n0, []) hS ((hL_.keepE hF (t := 3) rfl rfl).keepE hF (t := 0) rfl rfl) ?_ ?_
 · exact ⟨hn, (by simp)⟩
 rintro ⟨n, out⟩ a w1 ⟨hnw, hinv⟩ hS hF; try dsimp only at hF; try dsimp only at hS; try dsimp only at hnw; try dsimp only at hinv
 refine wp_seq_k fun K8 hK8 => rg hF rfl fun a hF => cx 11 hF rfl (fun c11 hF => ?_) fun c11 hF => ?_
 ·
  have hol : out.length ≤ 19 := fi_len hn hinv
  refine wp_skip <| hK8 _ _ <| wp_block <| ws fun K10 hK10 => ga 1 hF rfl fun a hF => wl hF rfl rfl rfl (r_rem (by first | decide | omega) (hF.ev rfl) ec) fun a hF => ge hK10 hF rfl fun a hF => ?_
  refine wp_seq_k fun K11 hK11 => rg hF rfl fun a hF => cx 15 hF rfl (fun c15 hF => ?_) fun c15 hF => ?_
  ·
   have hd_ := fi_d hnw
   rw [if_pos c15] at hd_
   refine wp_region_lit <| ga 1 hF rfl fun a hF => wl hF rfl rfl rfl (r_neg (hF.ev rfl)) fun a hF => ge hK11 hF rfl fun a hF => ws fun K13 hK13 => ga 2 hF rfl fun a hF => wl hF rfl rfl rfl (r_convw iu3 iu5 (hF.ev rfl)) fun a hF => ?_
   rw [hd_, w8 (by omega) (by omega)] at hF
   refine wl_bslice byteEK [.int .u8 (48 + ((n.natAbs % 10 : Nat) : Int))] [48 + ((n.natAbs % 10 : Nat) : Int)] rfl hF hS rfl mk73 rfl ⟨rfl, (hF.ev rfl), trivial⟩ rfl rfl rfl rfl fun gl_21 w2 a hS hF => wl hF rfl rfl rfl (r_s1o (e := 5) (by kernel_rfl) (by kernel_rfl) (by kernel_rfl) (hF.ev rfl) (hS.own_rd (i := 0) rfl) (by omega) (by omega)) fun a hF => ga 1 hF rfl fun a hF => ?_
   refine wl hF rfl rfl rfl (r_sadd (hF.ev rfl) (hF.ev rfl) (by simp only [List.length_append, List.length_cons, List.length_nil]; omega)) fun a hF => ?_
   refine ge hK13 hF rfl fun a hF => wp_region_lit <| ga 1 hF rfl fun a hF => wl hF rfl rfl rfl (r_quo (by first | decide | omega) (hF.ev rfl) ec) fun a hF => ga 1 hF rfl fun a hF => wl_nil ?_
   refine xt ?_
   refine ⟨(n.tdiv 10, _), ⟨(fi_i hnw), fi_next hinv c11 rfl⟩, (hS.pick [] (by decide) rfl), ((((hF.nil.keep hF (t := 4) rfl).keep hF (t := 2) rfl).keepE hF (t := 3) rfl rfl).keepE hF (t := 0) rfl (fi_w hnw)), (by show (n.tdiv 10).natAbs < n.natAbs; have := @fi_q n; omega)⟩
  have hd_ := fi_d hnw
  rw [if_neg c15] at hd_
  refine wp_skip <| hK11 _ _ <| ws fun K14 hK14 => ga 2 hF rfl fun a hF => wl hF rfl rfl rfl (r_convw iu3 iu5 (hF.ev rfl)) fun a hF => ?_
  rw [hd_, w8 (by omega) (by omega)] at hF
  refine wl_bslice byteEK [.int .u8 (48 + ((n.natAbs % 10 : Nat) : Int))] [48 + ((n.natAbs % 10 : Nat) : Int)] rfl hF hS rfl mk73 rfl ⟨rfl, (hF.ev rfl), trivial⟩ rfl rfl rfl rfl fun gl_21 w3 a hS hF => wl hF rfl rfl rfl (r_s1o (e := 5) (by kernel_rfl) (by kernel_rfl) (by kernel_rfl) (hF.ev rfl) (hS.own_rd (i := 0) rfl) (by omega) (by omega)) fun a hF => ga 1 hF rfl fun a hF => ?_
  refine wl hF rfl rfl rfl (r_sadd (hF.ev rfl) (hF.ev rfl) (by simp only [List.length_append, List.length_cons, List.length_nil]; omega)) fun a hF => ?_
  refine ge hK14 hF rfl fun a hF => wp_region_lit <| ga 1 hF rfl fun a hF => wl hF rfl rfl rfl (r_quo (by first | decide | omega) (hF.ev rfl) ec) fun a hF => ga 1 hF rfl fun a hF => wl_nil ?_
  refine xt ?_
  refine ⟨(n.tdiv 10, _), ⟨(fi_i hnw), fi_next hinv c11 rfl⟩, (hS.pick [] (by decide) rfl), ((((hF.nil.keep hF (t := 4) rfl).keep hF (t := 2) rfl).keepE hF (t := 3) rfl rfl).keepE hF (t := 0) rfl (fi_w hnw)), (by show (n.tdiv 10).natAbs < n.natAbs; have := @fi_q n; omega)⟩
 refine wp_exit ?_
 refine xt ?_
 refine hK7 _ _ <| wp_seq_k fun K15 hK15 => rg hF rfl fun a hF => cx 27 hF rfl (fun c27 hF => ?_) fun c27 hF => ?_
 ·
  have hol : out.length ≤ 19 := fi_len hn hinv
  refine ws fun K17 hK17 => ga 1 hF rfl fun a hF => ?_
  refine wl hF rfl rfl rfl (r_sadd ec (hF.ev rfl) (by simp only [List.length_append, List.length_cons, List.length_nil]; omega)) fun a hF => ?_
  refine ge hK17 hF rfl fun a hF => ?_
  refine xr ?_
  first
    | (refine ret1 rfl hF rfl ⟨?_, hS.old⟩; rw [c7, fi_zero]; done)
    | (obtain rfl : n = 0 := by omega
       refine ret1 rfl hF rfl ⟨?_, hS.old⟩
       rw [fi_end c7 hinv]
       first | rw [if_pos c27]; rfl | rw [if_neg c27])
 refine wp_skip <| hK15 _ _ <| rg hF rfl fun a hF => ?_
 refine xr ?_
 first
   | (refine ret1 rfl hF rfl ⟨?_, hS.old⟩; rw [c7, fi_zero]; done)
   | (obtain rfl : n = 0 := by omega
      refine ret1 rfl hF rfl ⟨?_, hS.old⟩
      rw [fi_end c7 hinv]
      first | rw [if_pos c27]; rfl | rw [if_neg c27])
theorem implFmtInt_c {W : World} {n : Int} (hT : Lib.TabIs Tryz.prog W "internal/strconv.uint64pow10" .u64 Lib.pow10Tab) (hn : int64 n) : Calls Tryz.prog 20 #[vi n] W (Ret fun v w' => v = vs (Lib.itoa n) ∧ Below W.heap.size W w') := by
 refine cfr Tryz.func20 Tryz.ntmps20 fun a hF => ?_
 have hS := Sep.refl W
 refine rg hF rfl fun a hF => ws fun K2 hK2 => ga 1 hF rfl fun a hF => ckr hF hS rfl (itoa_c (tab_ext hT hS.old) hn) fun w1 a hS hF => ge hK2 hF rfl fun a hF => ?_
 refine xr ?_
 exact ret1 rfl hF rfl ⟨rfl, hS.old⟩
theorem en12 : enterB Tryz.prog 12 = true := by kernel_rfl
theorem en13 : enterB Tryz.prog 13 = true := by kernel_rfl
theorem en14 : enterB Tryz.prog 14 = true := by kernel_rfl
theorem en20 : enterB Tryz.prog 20 = true := by kernel_rfl
theorem en22 : enterB Tryz.prog 22 = true := by kernel_rfl
theorem en23 : enterB Tryz.prog 23 = true := by kernel_rfl
set_option maxRecDepth 20000
section
variable {s : Sl.State}
def fmtSt (s : Sl.State) : List UInt8 :=
  if stateOk s = true then ([99, 108, 111, 99, 107, 32] : List UInt8) ++ Lib.itoa (at0 s.cells 0) ++ ([32, 98, 111, 114, 110, 32] : List UInt8) ++ Lib.itoa (bornOf s) ++ ([32, 102, 114, 101, 101, 32] : List UInt8) ++ Lib.itoa ((freeNodes s).length : Int) ++ ([32, 115, 116, 101, 112, 115, 32] : List UInt8) ++ Lib.itoa s.steps ++ ([32, 114, 101, 116, 114, 105, 101, 115, 32] : List UInt8) ++ Lib.itoa s.retries ++ ([32, 102, 97, 117, 108, 116, 115, 32] : List UInt8) ++ Lib.itoa s.faults else []
theorem at0_i64 {xs : List Int} {i : Int} (hx : ∀ x ∈ xs, int64 x) : int64 (at0 xs i) := by
 unfold at0
 cases e : xs[i.toNat]? with
 | none => show int64 0; unfold int64; omega
 | some x => exact hx x (List.mem_of_getElem? e)
theorem born_i64 (hw : s.wf) : int64 (bornOf s) := by
 unfold bornOf; split
 · exact at0_i64 hw.2.1
 · unfold int64; omega
theorem free_i64 : int64 ((freeNodes s).length : Int) := by
 have := freeNodes_len (s := s); unfold int64; omega
end
theorem specFreeN_c {W : World} {s : Sl.State} {cs : List Value} (hm : stateEK.K W s cs) (hw : s.wf) (hz : (s.size : Int) ≤ 1048576) : Calls Tryz.prog 14 #[.agg cs.toArray] W (Ret (Mk W (fun γ : Option Addr × Nat => .slice γ.1 (freeNodes s).length γ.2) (fun γ => [Own intEK (.slice γ.1 (freeNodes s).length γ.2) (freeNodes s)]))) := by
 refine (specFree_c hm hw hz).mono ?_
 rintro e w' ⟨v, rfl, ⟨A, n, q⟩, rfl, hS⟩
 obtain rfl := hS.own_len (q := 0) (s := (A, n, q)) rfl
 exact ⟨_, rfl, (A, q), rfl, hS⟩
theorem implFreeN_c {W : World} {s : Sl.State} {cs : List Value} (hm : stateEK.K W s cs) (hw : s.wf) (hz : (s.size : Int) ≤ 1048576) : Calls Tryz.prog 23 #[.agg cs.toArray] W (Ret (Mk W (fun γ : Option Addr × Nat => .slice γ.1 (freeNodes s).length γ.2) (fun γ => [Own intEK (.slice γ.1 (freeNodes s).length γ.2) (freeNodes s)]))) := by
 refine (implFree_c hm hw hz).mono ?_
 rintro e w' ⟨v, rfl, ⟨A, n, q⟩, rfl, hS⟩
 obtain rfl := hS.own_len (q := 0) (s := (A, n, q)) rfl
 exact ⟨_, rfl, (A, q), rfl, hS⟩
theorem implClock_c {W : World}  : Calls Tryz.prog 21 #[] W (Ret fun v w' => v = vi 0 ∧ Below W.heap.size W w') := by
 refine cfr Tryz.func21 Tryz.ntmps21 fun a hF => ?_
 have hS := Sep.refl W
 refine rg hF rfl fun a hF => rg hF rfl fun a hF => ?_
 refine xr ?_
 exact ret1 rfl hF rfl ⟨rfl, hS.old⟩
theorem specFmtSt_c {W : World} {s : Sl.State} {cs : List Value} (hm : stateEK.K W s cs) (hw : s.wf) (hz : (s.size : Int) ≤ 1048576) : Calls Tryz.prog 5 #[.agg cs.toArray] W (Ret fun v w' => v = vs (fmtSt s) ∧ Below W.heap.size W w') := by
 refine cfr Tryz.func5 Tryz.ntmps5 fun a hF => ?_
 have hS := Sep.refl W
 obtain ⟨v0, v1, v2, rfl, r0, r1, r2⟩ := hm
 have hm : stateEK.K W s (s.encv v0 v1 v2) := ⟨_, _, _, rfl, r0, r1, r2⟩
 obtain ⟨A_a, q_a, rfl, hq_a, hn_a⟩ := r0.sl; unfold maxLen at hn_a
 obtain ⟨A_b, q_b, rfl, hq_b, hn_b⟩ := r1.sl; unfold maxLen at hn_b
 obtain ⟨A_c, q_c, rfl, hq_c, hn_c⟩ := r2.sl; unfold maxLen at hn_c
 have hwl : IntKind.i64.wrap ((s.threads.length : Int) - 1) = s.threads.length - 1 := w64_id (by omega) (by omega)
 have hi0 : int64 (at0 s.cells 0) := at0_i64 hw.2.1
 have hi1 := born_i64 hw
 have hi2 := free_i64 (s := s)
 have hi3 : int64 s.steps := hw.2.2.2.2.1
 have hi4 : int64 s.retries := hw.2.2.2.2.2.2.1
 have hi5 : int64 s.faults := hw.2.2.2.2.2.2.2
 have hj0 := itoaL hi0
 have hj1 := itoaL hi1
 have hj2 := itoaL hi2
 have hj3 := itoaL hi3
 have hj4 := itoaL hi4
 have hj5 := itoaL hi5
 refine ws fun K1 hK1 => wl_box (cs := [_, _, _, _, _, _, _, _, _, _, _, _, _]) hF hS rfl (hF.ev rfl) rfl fun g1 w1 a hS _ hF => ge hK1 hF rfl fun a hF => wp_seq_k fun K2 hK2 => ws fun K3 hK3 => gb 1 0 hF hS rfl rfl rfl fun a hF => ckr hF hS rfl (specIsState_c (hS.k hm) hw (by omega)) fun w2 a hS hF => ?_
 refine ge hK3 hF rfl fun a hF => cx 6 hF rfl (fun c6 hF => ?_) fun c6 hF => ?_
 ·
  refine rg hF rfl fun a hF => ?_
  refine xr ?_
  first
    | (refine ret1 rfl hF rfl ⟨?_, hS.old⟩; unfold fmtSt; rw [if_neg (by rw [c6]; decide)]; done)
    | (refine ret1 rfl hF rfl ⟨?_, hS.old⟩; unfold fmtSt; rw [if_pos c6]; try (simp only [List.append_assoc, List.cons_append, List.nil_append, List.append_nil]; done))
 obtain ⟨hok, hl1, hl2, hl3⟩ := stateOk_shape (c6)
 have hb := hok; unfold Config.ok at hb
 have hcc := cellCount_eq hok
 refine wp_skip <| hK2 _ _ <| wp_seq_k fun K5 hK5 => ?_
 refine wp_region_todo (is := [0, 1, 2, 3, 7, 12, 18, 19, 23, 24, 28, 29, 4, 5, 6, 8, 9, 10, 11, 13, 14, 15, 16, 17, 20, 21, 22, 25, 26, 27, 30, 31, 32]) [] [] (by kernel_rfl) hF hS ⟨trivial, by decide, by decide, by decide⟩ (by kernel_rfl) ?_; intro hl_ wd hSd
 refine tp 1 hl_ rfl <| todo_load [2, 3, 4, 5, 6, 8, 9, 10, 11, 13, 14, 15, 16, 17, 20, 21, 22, 25, 26, 27, 30, 31, 32] hl_ (by kernel_rfl) rfl (gw0 rfl) rfl rfl rfl (fun a w_ hF hB_ => r_load1 sc24 (hF.ev rfl) ((hSd.ext hB_).box (i := 0) rfl rfl)) ?_
 obtain ⟨g9, o9, m9, q9, hv9, hm9, hl9, hc9⟩ := Rd.idxF (r0) (at0_get (i := 0) (by omega) (by omega))
 refine todo_pure hl_ (by kernel_rfl) rfl (gw0 rfl) rfl rfl rfl (fun a w_ hF => r_index sl24 ((hF.ev rfl).trans hv9) ec (by omega) (by first | omega | (simp at hm9; omega))) ?_
 refine todo_load [4, 5, 6, 8, 9, 10, 11, 13, 14, 15, 16, 17, 20, 21, 22, 25, 26, 27, 30, 31, 32] hl_ (by kernel_rfl) rfl (gw0 rfl) rfl rfl rfl (fun a w_ hF hB_ => r_load1 sc3 (hF.ev rfl) (cellB (hSd.ext hB_).old (hc9 0 _ rfl))) <| todo_load [8, 9, 10, 11, 13, 14, 15, 16, 17, 20, 21, 22, 25, 26, 27, 30, 31, 32] hl_ (by kernel_rfl) rfl (gw0 rfl) rfl rfl rfl (fun a w_ hF hB_ => r_loadn ag33 (hF.ev rfl) ((hSd.ext hB_).box_rd (i := 0) rfl) sz33) <| todo_load [13, 14, 15, 16, 17, 20, 21, 22, 25, 26, 27, 30, 31, 32] hl_ (by kernel_rfl) rfl (gw0 rfl) rfl rfl rfl (fun a w_ hF hB_ => r_loadn ag33 (hF.ev rfl) ((hSd.ext hB_).box_rd (i := 0) rfl) sz33) <| tp 1 hl_ rfl <| todo_load [20, 21, 22, 25, 26, 27, 30, 31, 32] hl_ (by kernel_rfl) rfl (gw0 rfl) rfl rfl rfl (fun a w_ hF hB_ => r_load1 sc3 (hF.ev rfl) ((hSd.ext hB_).box (i := 0) rfl rfl)) <| tp 1 hl_ rfl <| todo_load [25, 26, 27, 30, 31, 32] hl_ (by kernel_rfl) rfl (gw0 rfl) rfl rfl rfl (fun a w_ hF hB_ => r_load1 sc3 (hF.ev rfl) ((hSd.ext hB_).box (i := 0) rfl rfl)) ?_
 refine tp 1 hl_ rfl <| todo_load [30, 31, 32] hl_ (by kernel_rfl) rfl (gw0 rfl) rfl rfl rfl (fun a w_ hF hB_ => r_load1 sc3 (hF.ev rfl) ((hSd.ext hB_).box (i := 0) rfl rfl)) <| todo_rd hl_ rfl (by kernel_rfl) rfl rfl rfl rfl rfl (fun a w_ hF => r_call1 en12 (hF.ev rfl)) (fun w_ hS => specFmtInt_c (by assumption)) ?_
 refine todo_pure hl_ (by kernel_rfl) rfl (gw0 rfl) rfl rfl rfl (fun a w_ hF => r_sadd ec (hF.ev rfl) (by simp only [List.length_append, List.length_cons, List.length_nil]; omega)) ?_
 refine todo_pure hl_ (by kernel_rfl) rfl (gw0 rfl) rfl rfl rfl (fun a w_ hF => r_sadd (hF.ev rfl) ec (by simp only [List.length_append, List.length_cons, List.length_nil]; omega)) ?_
 refine todo_rd hl_ rfl (by kernel_rfl) rfl rfl rfl rfl rfl (fun a w_ hF => r_call1 en13 (hF.ev rfl)) (fun w_ hS => specBorn_c (hS.k hm) hw (by omega)) <| todo_rd hl_ rfl (by kernel_rfl) rfl rfl rfl rfl rfl (fun a w_ hF => r_call1 en12 (hF.ev rfl)) (fun w_ hS => specFmtInt_c (by assumption)) ?_
 refine todo_pure hl_ (by kernel_rfl) rfl (gw0 rfl) rfl rfl rfl (fun a w_ hF => r_sadd (hF.ev rfl) (hF.ev rfl) (by simp only [List.length_append, List.length_cons, List.length_nil]; omega)) ?_
 refine todo_pure hl_ (by kernel_rfl) rfl (gw0 rfl) rfl rfl rfl (fun a w_ hF => r_sadd (hF.ev rfl) ec (by simp only [List.length_append, List.length_cons, List.length_nil]; omega)) ?_
 refine todo_mk hl_ rfl (by kernel_rfl) rfl rfl rfl rfl rfl (fun a w_ hF => r_call1 en14 (hF.ev rfl)) (fun w_ hS => specFreeN_c (hS.k hm) hw (by omega)) ?_; rintro ⟨A20, q20⟩
 refine tp 1 hl_ rfl <| todo_rd hl_ rfl (by kernel_rfl) rfl rfl rfl rfl rfl (fun a w_ hF => r_call1 en12 (hF.ev rfl)) (fun w_ hS => specFmtInt_c (by assumption)) ?_
 refine todo_pure hl_ (by kernel_rfl) rfl (gw0 rfl) rfl rfl rfl (fun a w_ hF => r_sadd (hF.ev rfl) (hF.ev rfl) (by simp only [List.length_append, List.length_cons, List.length_nil]; omega)) ?_
 refine todo_pure hl_ (by kernel_rfl) rfl (gw0 rfl) rfl rfl rfl (fun a w_ hF => r_sadd (hF.ev rfl) ec (by simp only [List.length_append, List.length_cons, List.length_nil]; omega)) ?_
 refine todo_rd hl_ rfl (by kernel_rfl) rfl rfl rfl rfl rfl (fun a w_ hF => r_call1 en12 (hF.ev rfl)) (fun w_ hS => specFmtInt_c (by assumption)) ?_
 refine todo_pure hl_ (by kernel_rfl) rfl (gw0 rfl) rfl rfl rfl (fun a w_ hF => r_sadd (hF.ev rfl) (hF.ev rfl) (by simp only [List.length_append, List.length_cons, List.length_nil]; omega)) ?_
 refine todo_pure hl_ (by kernel_rfl) rfl (gw0 rfl) rfl rfl rfl (fun a w_ hF => r_sadd (hF.ev rfl) ec (by simp only [List.length_append, List.length_cons, List.length_nil]; omega)) ?_
 refine todo_rd hl_ rfl (by kernel_rfl) rfl rfl rfl rfl rfl (fun a w_ hF => r_call1 en12 (hF.ev rfl)) (fun w_ hS => specFmtInt_c (by assumption)) ?_
 refine todo_pure hl_ (by kernel_rfl) rfl (gw0 rfl) rfl rfl rfl (fun a w_ hF => r_sadd (hF.ev rfl) (hF.ev rfl) (by simp only [List.length_append, List.length_cons, List.length_nil]; omega)) ?_
 refine todo_pure hl_ (by kernel_rfl) rfl (gw0 rfl) rfl rfl rfl (fun a w_ hF => r_sadd (hF.ev rfl) ec (by simp only [List.length_append, List.length_cons, List.length_nil]; omega)) ?_
 refine todo_rd hl_ rfl (by kernel_rfl) rfl rfl rfl rfl rfl (fun a w_ hF => r_call1 en12 (hF.ev rfl)) (fun w_ hS => specFmtInt_c (by assumption)) ?_
 refine todo_pure hl_ (by kernel_rfl) rfl (gw0 rfl) rfl rfl rfl (fun a w_ hF => r_sadd (hF.ev rfl) (hF.ev rfl) (by simp only [List.length_append, List.length_cons, List.length_nil]; omega)) ?_
 refine tp 1 hl_ rfl ?_
 refine todo_fin hl_ rfl (by kernel_rfl) (tl := []) rfl ?_; intro a w3 hF hA_
 have hS := hA_.sep; clear hA_
 clear hl_; try clear hSd
 try dsimp only [List.cons_append, List.nil_append, List.set] at hS
 try clear wd
 refine wl_nil ⟨rfl, ?_⟩
 refine hK5 _ _ <| rg hF rfl fun a hF => ?_
 refine xr ?_
 first
   | (refine ret1 rfl hF rfl ⟨?_, hS.old⟩; unfold fmtSt; rw [if_neg (by rw [c6]; decide)]; done)
   | (refine ret1 rfl hF rfl ⟨?_, hS.old⟩; unfold fmtSt; rw [if_pos c6]; try (simp only [List.append_assoc, List.cons_append, List.nil_append, List.append_nil]; done))
theorem implFmtSt_c {W : World} {s : Sl.State} {cs : List Value} (hm : stateEK.K W s cs) (hw : s.wf) (hz : (s.size : Int) ≤ 1048576) (hT : Lib.TabIs Tryz.prog W "internal/strconv.uint64pow10" .u64 Lib.pow10Tab) : Calls Tryz.prog 7 #[.agg cs.toArray] W (Ret fun v w' => v = vs (fmtSt s) ∧ Below W.heap.size W w') := by
 refine cfr Tryz.func7 Tryz.ntmps7 fun a hF => ?_
 have hS := Sep.refl W
 obtain ⟨v0, v1, v2, rfl, r0, r1, r2⟩ := hm
 have hm : stateEK.K W s (s.encv v0 v1 v2) := ⟨_, _, _, rfl, r0, r1, r2⟩
 obtain ⟨A_a, q_a, rfl, hq_a, hn_a⟩ := r0.sl; unfold maxLen at hn_a
 obtain ⟨A_b, q_b, rfl, hq_b, hn_b⟩ := r1.sl; unfold maxLen at hn_b
 obtain ⟨A_c, q_c, rfl, hq_c, hn_c⟩ := r2.sl; unfold maxLen at hn_c
 have hwl : IntKind.i64.wrap ((s.threads.length : Int) - 1) = s.threads.length - 1 := w64_id (by omega) (by omega)
 have hi0 : int64 (at0 s.cells 0) := at0_i64 hw.2.1
 have hi1 := born_i64 hw
 have hi2 := free_i64 (s := s)
 have hi3 : int64 s.steps := hw.2.2.2.2.1
 have hi4 : int64 s.retries := hw.2.2.2.2.2.2.1
 have hi5 : int64 s.faults := hw.2.2.2.2.2.2.2
 have hj0 := itoaL hi0
 have hj1 := itoaL hi1
 have hj2 := itoaL hi2
 have hj3 := itoaL hi3
 have hj4 := itoaL hi4
 have hj5 := itoaL hi5
 refine ws fun K1 hK1 => wl_box (cs := [_, _, _, _, _, _, _, _, _, _, _, _, _]) hF hS rfl (hF.ev rfl) rfl fun g1 w1 a hS _ hF => ge hK1 hF rfl fun a hF => wp_seq_k fun K2 hK2 => ws fun K3 hK3 => gb 1 0 hF hS rfl rfl rfl fun a hF => ckr hF hS rfl (implIsState_c (hS.k hm) hw (by omega)) fun w2 a hS hF => ?_
 refine ge hK3 hF rfl fun a hF => cx 5 hF rfl (fun c5 hF => ?_) fun c5 hF => ?_
 ·
  refine rg hF rfl fun a hF => ?_
  refine xr ?_
  first
    | (refine ret1 rfl hF rfl ⟨?_, hS.old⟩; unfold fmtSt; rw [if_neg (by rw [c5]; decide)]; done)
    | (refine ret1 rfl hF rfl ⟨?_, hS.old⟩; unfold fmtSt; rw [if_pos c5]; try (simp [Lib.join, List.intercalate, List.intersperse]; done))
 obtain ⟨hok, hl1, hl2, hl3⟩ := stateOk_shape (c5)
 have hb := hok; unfold Config.ok at hb
 have hcc := cellCount_eq hok
 refine wp_skip <| hK2 _ _ <| wp_seq_k fun K5 hK5 => ?_
 refine wp_region_todo (is := [0, 1, 6, 9, 13, 14, 16, 17, 19, 20, 2, 3, 4, 5, 7, 8, 10, 11, 12, 15, 18, 21, 22, 23, 24]) [] [22, 23, 24] (by kernel_rfl) hF hS ⟨trivial, by decide, by decide, by decide⟩ (by kernel_rfl) ?_; intro hl_ wd hSd
 refine tp 1 hl_ rfl <| todo_load [3, 4, 5, 7, 8, 10, 11, 12, 15, 18, 21, 22, 23, 24] hl_ (by kernel_rfl) rfl (gw0 rfl) rfl rfl rfl (fun a w_ hF hB_ => r_load1 sc24 (hF.ev rfl) ((hSd.ext hB_).box (i := 0) rfl rfl)) <| todo_load [7, 8, 10, 11, 12, 15, 18, 21, 22, 23, 24] hl_ (by kernel_rfl) rfl (gw0 rfl) rfl rfl rfl (fun a w_ hF hB_ => r_loadn ag33 (hF.ev rfl) ((hSd.ext hB_).box_rd (i := 0) rfl) sz33) <| todo_load [10, 11, 12, 15, 18, 21, 22, 23, 24] hl_ (by kernel_rfl) rfl (gw0 rfl) rfl rfl rfl (fun a w_ hF hB_ => r_loadn ag33 (hF.ev rfl) ((hSd.ext hB_).box_rd (i := 0) rfl) sz33) <| tp 1 hl_ rfl <| todo_load [15, 18, 21, 22, 23, 24] hl_ (by kernel_rfl) rfl (gw0 rfl) rfl rfl rfl (fun a w_ hF hB_ => r_load1 sc3 (hF.ev rfl) ((hSd.ext hB_).box (i := 0) rfl rfl)) <| tp 1 hl_ rfl ?_
 refine todo_load [18, 21, 22, 23, 24] hl_ (by kernel_rfl) rfl (gw0 rfl) rfl rfl rfl (fun a w_ hF hB_ => r_load1 sc3 (hF.ev rfl) ((hSd.ext hB_).box (i := 0) rfl rfl)) <| tp 1 hl_ rfl <| todo_load [21, 22, 23, 24] hl_ (by kernel_rfl) rfl (gw0 rfl) rfl rfl rfl (fun a w_ hF hB_ => r_load1 sc3 (hF.ev rfl) ((hSd.ext hB_).box (i := 0) rfl rfl)) <| todo_rd hl_ rfl (by kernel_rfl) rfl rfl rfl rfl rfl (fun a w_ hF => r_call0 en21 ) (fun w_ hS => implClock_c) ?_
 obtain ⟨g9, o9, m9, q9, hv9, hm9, hl9, hc9⟩ := Rd.idxF (r0) (at0_get (i := 0) (by omega) (by omega))
 refine todo_pure hl_ (by kernel_rfl) rfl (gw0 rfl) rfl rfl rfl (fun a w_ hF => r_index sl24 ((hF.ev rfl).trans hv9) (hF.ev rfl) (by omega) (by first | omega | (simp at hm9; omega))) ?_
 refine todo_load [5, 7, 8, 10, 11, 12, 15, 18, 21, 22, 23, 24] hl_ (by kernel_rfl) rfl (gw0 rfl) rfl rfl rfl (fun a w_ hF hB_ => r_load1 sc3 (hF.ev rfl) (cellB (hSd.ext hB_).old (hc9 0 _ rfl))) <| todo_rd hl_ rfl (by kernel_rfl) rfl rfl rfl rfl rfl (fun a w_ hF => r_call1 en20 (hF.ev rfl)) (fun w_ hS => implFmtInt_c (tab_ext hT hS.old) (by assumption)) <| todo_rd hl_ rfl (by kernel_rfl) rfl rfl rfl rfl rfl (fun a w_ hF => r_call1 en22 (hF.ev rfl)) (fun w_ hS => implBorn_c (hS.k hm) hw (by omega)) <| todo_rd hl_ rfl (by kernel_rfl) rfl rfl rfl rfl rfl (fun a w_ hF => r_call1 en20 (hF.ev rfl)) (fun w_ hS => implFmtInt_c (tab_ext hT hS.old) (by assumption)) ?_
 refine todo_mk hl_ rfl (by kernel_rfl) rfl rfl rfl rfl rfl (fun a w_ hF => r_call1 en23 (hF.ev rfl)) (fun w_ hS => implFreeN_c (hS.k hm) hw (by omega)) ?_; rintro ⟨A16, q16⟩
 refine tp 1 hl_ rfl <| todo_rd hl_ rfl (by kernel_rfl) rfl rfl rfl rfl rfl (fun a w_ hF => r_call1 en20 (hF.ev rfl)) (fun w_ hS => implFmtInt_c (tab_ext hT hS.old) (by assumption)) <| todo_rd hl_ rfl (by kernel_rfl) rfl rfl rfl rfl rfl (fun a w_ hF => r_call1 en20 (hF.ev rfl)) (fun w_ hS => implFmtInt_c (tab_ext hT hS.old) (by assumption)) <| todo_rd hl_ rfl (by kernel_rfl) rfl rfl rfl rfl rfl (fun a w_ hF => r_call1 en20 (hF.ev rfl)) (fun w_ hS => implFmtInt_c (tab_ext hT hS.old) (by assumption)) <| todo_rd hl_ rfl (by kernel_rfl) rfl rfl rfl rfl rfl (fun a w_ hF => r_call1 en20 (hF.ev rfl)) (fun w_ hS => implFmtInt_c (tab_ext hT hS.old) (by assumption)) ?_
 refine todo_fin hl_ rfl (by kernel_rfl) (tl := [_, _, _]) rfl ?_; intro a w3 hF hA_
 have hS := hA_.sep; clear hA_
 clear hl_; try clear hSd
 try dsimp only [List.cons_append, List.nil_append, List.set] at hS
 try clear wd
 refine wl_bslice stringEK [.string ⟨#[99, 108, 111, 99, 107]⟩, vs (Lib.itoa (at0 s.cells 0)), .string ⟨#[98, 111, 114, 110]⟩, vs (Lib.itoa (bornOf s)), .string ⟨#[102, 114, 101, 101]⟩, vs (Lib.itoa (((freeNodes s).length : Int))), .string ⟨#[115, 116, 101, 112, 115]⟩, vs (Lib.itoa (s.steps)), .string ⟨#[114, 101, 116, 114, 105, 101, 115]⟩, vs (Lib.itoa (s.retries)), .string ⟨#[102, 97, 117, 108, 116, 115]⟩, vs (Lib.itoa (s.faults))] [⟨#[99, 108, 111, 99, 107]⟩, ⟨(Lib.itoa (at0 s.cells 0)).toArray⟩, ⟨#[98, 111, 114, 110]⟩, ⟨(Lib.itoa (bornOf s)).toArray⟩, ⟨#[102, 114, 101, 101]⟩, ⟨(Lib.itoa (((freeNodes s).length : Int))).toArray⟩, ⟨#[115, 116, 101, 112, 115]⟩, ⟨(Lib.itoa (s.steps)).toArray⟩, ⟨#[114, 101, 116, 114, 105, 101, 115]⟩, ⟨(Lib.itoa (s.retries)).toArray⟩, ⟨#[102, 97, 117, 108, 116, 115]⟩, ⟨(Lib.itoa (s.faults)).toArray⟩] rfl hF hS rfl mk48 rfl ⟨rfl, ec, rfl, (hF.ev rfl), rfl, ec, rfl, (hF.ev rfl), rfl, ec, rfl, (hF.ev rfl), rfl, ec, rfl, (hF.ev rfl), rfl, ec, rfl, (hF.ev rfl), rfl, ec, rfl, (hF.ev rfl), trivial⟩ rfl rfl rfl rfl fun gl_28 w4 a hS hF => ?_
 refine ckr hF hS rfl (join_c (hS.own_rd (i := 0) rfl) (by simp) (by simp) (by simp [Lib.join, List.intercalate, List.intersperse]; omega)) fun w5 a hS hF => ?_
 refine ga 1 hF rfl fun a hF => wl_nil ⟨rfl, ?_⟩
 refine hK5 _ _ ?_
 refine xr ?_
 first
   | (refine ret1 rfl hF rfl ⟨?_, hS.old⟩; unfold fmtSt; rw [if_neg (by rw [c5]; decide)]; done)
   | (refine ret1 rfl hF rfl ⟨?_, hS.old⟩; unfold fmtSt; rw [if_pos c5]; try (simp [Lib.join, List.intercalate, List.intersperse]; done))
set_option maxRecDepth 20000
def _root_.Go.Proofs.YtbgacfdnmbhloaaGreatDoor.Sl.Entry.cnt (x : Sl.Entry) : Nat := 4
def _root_.Go.Proofs.YtbgacfdnmbhloaaGreatDoor.Sl.Thread.cnt (x : Sl.Thread) : Nat := 14 + x.found.length + x.free.length + (crow Sl.Entry.cnt x.buffer) + (crow Sl.Entry.cnt x.work) + x.limbo.length
set_option maxRecDepth 20000
def _root_.Go.Proofs.YtbgacfdnmbhloaaGreatDoor.Sl.State.cnt (s : Sl.State) : Nat := s.cells.length + s.generations.length + crow Sl.Thread.cnt s.threads
theorem crow_four (xs : List Entry) : crow Sl.Entry.cnt xs = 4 * xs.length := by
 induction xs with
 | nil => rfl
 | cons x xs ih => simp only [crow, ih, List.length_cons, Sl.Entry.cnt]; omega
theorem thread_cnt (t : Sl.Thread) : t.cnt ≤ 14 + 4 * t.size := by
 unfold Sl.Thread.cnt Sl.Thread.size
 rw [crow_four, crow_four]; omega
theorem threads_cnt (xs : List Sl.Thread) : crow Sl.Thread.cnt xs ≤ 14 * xs.length + 4 * crow Sl.Thread.size xs := by
 induction xs with
 | nil => simp [crow]
 | cons x xs ih =>
   have := thread_cnt x
   simp only [crow, List.length_cons]; omega
theorem state_cnt (s : Sl.State) : s.cnt ≤ 14 * s.size := by
 have := threads_cnt s.threads
 unfold Sl.State.cnt Sl.State.size; omega
theorem ag27 : aggB Tryz.prog 27 = true := by kernel_rfl
theorem en6 : enterB Tryz.prog 6 = true := by kernel_rfl
theorem en8 : enterB Tryz.prog 8 = true := by kernel_rfl
theorem sz27 : szB Tryz.prog 27 = some 13 := by kernel_rfl
set_option maxRecDepth 20000
theorem law_FnExactFormatState {W : World} {s : Sl.State} {cs : List Value} (hm : stateEK.K W s cs) (hw : s.wf) (hT : Lib.TabIs Tryz.prog W "internal/strconv.uint64pow10" .u64 Lib.pow10Tab) : Calls Tryz.prog 3 #[.agg cs.toArray] W (Ret fun v w' => v = .bool true ∧ Below W.heap.size W w') := by
 refine cfr Tryz.func3 Tryz.ntmps3 fun a hF => ?_
 have hS := Sep.refl W
 obtain ⟨v0, v1, v2, rfl, r0, r1, r2⟩ := hm
 have hm : stateEK.K W s (s.encv v0 v1 v2) := ⟨_, _, _, rfl, r0, r1, r2⟩
 have hcs := state_cnt s
 refine ws fun K1 hK1 => wl_box (cs := [_, _, _, _, _, _, _, _, _, _, _, _, _]) hF hS rfl (hF.ev rfl) rfl fun g1 w1 a hS _ hF => ge hK1 hF rfl fun a hF => rg hF rfl fun a hF => ws fun K3 hK3 => gb 2 0 hF hS rfl rfl rfl fun a hF => ?_
 refine ck hF rfl (szState_c (hS.k hm) (by omega) (by omega)) ?_; rintro v w2 a ⟨⟨r9, rfl, e1_9, e2_9, e3_9⟩, hB_⟩ hF; have hS := hS.ext hB_
 refine ge hK3 hF rfl fun a hF => wp_seq_k fun K4 hK4 => rg hF rfl fun a hF => ?_
 first | refine wc_dec (hF.ev rfl) (fun c11 => ?_) (fun c11 => ?_) | refine wc_ndec (hF.ev rfl) (fun c11 => ?_) (fun c11 => ?_) | refine wc_b (hF.ev rfl) (fun c11 => ?_) (fun c11 => ?_)
 ·
  refine rg hF rfl fun a hF => ?_
  refine xr ?_
  exact ret1 rfl hF rfl ⟨rfl, hS.old⟩
 refine wp_skip <| hK4 _ _ <| ws fun K7 hK7 => gb 1 0 hF hS rfl rfl rfl fun a hF => ?_
 refine wl_mk hF hS rfl rfl rfl (r_call1 en6 (hF.ev rfl)) (toState_c (hS.k hm) (by omega)) ?_; rintro vs13 w3 a hS_ hF; replace hS := hS_; clear hS_; dsimp only [List.cons_append, List.nil_append] at hS
 refine ckr hF hS rfl (specFmtSt_c (hS.part_k (i := 0) rfl) hw (by omega)) fun w4 a hS hF => ge hK7 hF rfl fun a hF => ws fun K8 hK8 => gb 1 1 hF hS rfl rfl rfl fun a hF => ?_
 refine wl_mk hF hS rfl rfl rfl (r_call1 en6 (hF.ev rfl)) (toState_c (hS.k hm) (by omega)) ?_; rintro vs16 w5 a hS_ hF; replace hS := hS_; clear hS_; dsimp only [List.cons_append, List.nil_append] at hS
 refine wl_alloc hF hS rfl zr33 fun g2 w6 a hS _ hF => ww 0 hF hS rfl rfl rfl rfl rfl rfl fun w7 hS => wl_nil <| hK8 _ _ <| ws fun K9 hK9 => gb 1 0 hF hS rfl rfl rfl fun a hF => ckr hF hS rfl (implFmtSt_c (hS.part_k (i := 1) rfl) hw (by omega) (tab_ext hT hS.old)) fun w8 a hS hF => ge hK9 hF rfl fun a hF => ?_
 refine wp_seq_k fun K10 hK10 => ws fun K11 hK11 => ga 2 hF rfl fun a hF => wl hF rfl rfl rfl (r_sneq (hF.ev rfl) (hF.ev rfl)) fun a hF => wl_nil (hK11 _ _ ?_)
 first | refine wc_dec (hF.ev rfl) (fun c21 => ?_) (fun c21 => ?_) | refine wc_ndec (hF.ev rfl) (fun c21 => ?_) (fun c21 => ?_) | refine wc_b (hF.ev rfl) (fun c21 => ?_) (fun c21 => ?_)
 · exfalso; simp at c21
 refine wp_skip <| hK10 _ _ <| wp_seq_k fun K12 hK12 => wp_seq_k fun K13 hK13 => ?_
 refine wp_region_todo (is := [0, 1, 2, 3, 4]) [] [] (by kernel_rfl) hF hS ⟨trivial, by decide, by decide, by decide⟩ (by kernel_rfl) ?_; intro hl_ wd hSd
 refine todo_quiet hl_ (by kernel_rfl) rfl rfl rfl rfl rfl (fun a w_ hF hB_ => r_loadn ag33 (hF.ev rfl) ((hSd.ext hB_).box_rd (i := 0) rfl) sz33) <| todo_quiet hl_ (by kernel_rfl) rfl rfl rfl rfl rfl (fun a w_ hF hB_ => r_loadn ag27 (hF.ev rfl) ((hSd.ext hB_).box_rd (i := 3) rfl) sz27) ?_
 refine todo_mk hl_ rfl (by kernel_rfl) rfl rfl rfl rfl rfl (fun a w_ hF => r_call1 en6 (hF.ev rfl)) (fun w_ hS => toState_c (hS.k hm) (by omega)) ?_; rintro vs24
 refine todo_rd hl_ rfl (by kernel_rfl) rfl rfl rfl rfl rfl (fun a w_ hF => r_call2 en8 (hF.ev rfl) (hF.ev rfl)) (fun w_ hS => eqState_same (hS.part_k (i := 2) rfl) (hS.part_k (i := 0) rfl)) <| tp 1 hl_ rfl ?_
 refine todo_fin hl_ rfl (by kernel_rfl) (tl := []) rfl ?_; intro a w9 hF hA_
 have hS := hA_.sep; clear hA_
 clear hl_; try clear hSd
 try dsimp only [List.cons_append, List.nil_append, List.set] at hS
 try clear wd
 refine wl_nil ⟨rfl, ?_⟩
 refine hK13 _ _ <| wc_false (hF.ev rfl) <| wp_skip <| hK12 _ _ <| rg hF rfl fun a hF => ?_
 refine xr ?_
 exact ret1 rfl hF rfl ⟨rfl, hS.old⟩
end Go.Proofs.YtbgacfdnmbhloaaGreatDoor.Wk
namespace Go.Proofs.YtbgacfdnmbhloaaGreatDoor.Sl
open Go
section
variable {P : Program} {h s : List Char} {X : List (List Char)}
/-- a row of signs, by their numbers -/
def ch (l : List Nat) : List Char := l.map Char.ofNat
/-- the blank -/
abbrev sp : Char := Char.ofNat 32
theorem words_sp : ∀ (w r : List Char), Sl.sp ∉ w → wordsSigns (w ++ Sl.sp :: r) = w :: wordsSigns r
  | [], r, _ => rfl
  | c :: w, r, h => by
    have hc : c ≠ Sl.sp := fun e => h (e ▸ List.mem_cons_self)
    have ih := words_sp w r (fun e => h (List.mem_cons_of_mem _ e))
    rw [List.cons_append, wordsSigns.eq_3 _ _ (fun e => hc e), ih]
theorem strip_cut : stripLifts liftWords ("cut".toList :: X) = ([], "cut".toList :: X) := by kernel_rfl
theorem made_of (e : behindMainWord (wordsSigns P.initOrder.toList) = "cut".toList :: X) : P.make = some .cut := by
 unfold Program.make; rw [e]; rfl
theorem final_of (e : behindMainWord (wordsSigns P.initOrder.toList) = "cut".toList :: X) : P.liftsFinal = false := by
 unfold Program.liftsFinal Program.headLifts; rw [e]; dsimp only; rw [strip_cut]; rfl
theorem enter_of (e : behindMainWord (wordsSigns P.initOrder.toList) = "cut".toList :: X) (h1 : P.laysLater = false) (h2 : P.bearsReflect = false) (h3 : P.doorFits [] = true) : P.mayEnter = true := by
 unfold Program.mayEnter; rw [e]; dsimp only; rw [strip_cut, h1, h2, h3]; rfl
end
end Go.Proofs.YtbgacfdnmbhloaaGreatDoor.Sl

namespace Go.Proofs.YtbgacfdnmbhloaaGreatDoor
open Go Go.RowKit Sl Wk
set_option linter.unusedVariables false
set_option linter.unusedSimpArgs false
set_option maxRecDepth 20000
theorem op3 : Opens Tryz.prog 3 1 (fun _ n cs => cs = [vi n]) int64 := opens_int (by kernel_rfl) (by kernel_rfl)
theorem fd23_0 : fldB Tryz.prog 23 0 = some (3, 0) := by kernel_rfl
theorem fd23_1 : fldB Tryz.prog 23 1 = some (3, 1) := by kernel_rfl
theorem fd23_2 : fldB Tryz.prog 23 2 = some (3, 2) := by kernel_rfl
theorem fd23_3 : fldB Tryz.prog 23 3 = some (3, 3) := by kernel_rfl
theorem fd23_4 : fldB Tryz.prog 23 4 = some (3, 4) := by kernel_rfl
theorem fd23_5 : fldB Tryz.prog 23 5 = some (3, 5) := by kernel_rfl
theorem op23 : Opens Tryz.prog 23 6 (fun _ x cs => cs = Config.enc x) Config.wf := by
 refine ⟨by kernel_rfl, fun H enc W sp fuel cs y h => ?_⟩
 have hl : cs.length = 6 := (trod_len fd23_0 h).trans (by kernel_rfl)
 have e6 : cs.drop 6 = [] := List.drop_eq_nil_of_le (by omega)
 obtain ⟨x0, k0, w0⟩ := Opens.field op3 fd23_0 h
 obtain ⟨x1, k1, w1⟩ := Opens.field op3 fd23_1 h
 obtain ⟨x2, k2, w2⟩ := Opens.field op3 fd23_2 h
 obtain ⟨x3, k3, w3⟩ := Opens.field op3 fd23_3 h
 obtain ⟨x4, k4, w4⟩ := Opens.field op3 fd23_4 h
 obtain ⟨x5, k5, w5⟩ := Opens.field op3 fd23_5 h
 have e5 : cs.drop 5 = [vi x5] ++ [] := by rw [drop_split cs 5 1, e6]; exact congrArg (· ++ _) k5
 have e4 : cs.drop 4 = [vi x4] ++ ([vi x5] ++ []) := by rw [drop_split cs 4 1, e5]; exact congrArg (· ++ _) k4
 have e3 : cs.drop 3 = [vi x3] ++ ([vi x4] ++ ([vi x5] ++ [])) := by rw [drop_split cs 3 1, e4]; exact congrArg (· ++ _) k3
 have e2 : cs.drop 2 = [vi x2] ++ ([vi x3] ++ ([vi x4] ++ ([vi x5] ++ []))) := by rw [drop_split cs 2 1, e3]; exact congrArg (· ++ _) k2
 have e1 : cs.drop 1 = [vi x1] ++ ([vi x2] ++ ([vi x3] ++ ([vi x4] ++ ([vi x5] ++ [])))) := by rw [drop_split cs 1 1, e2]; exact congrArg (· ++ _) k1
 have e0 : cs.drop 0 = [vi x0] ++ ([vi x1] ++ ([vi x2] ++ ([vi x3] ++ ([vi x4] ++ ([vi x5] ++ []))))) := by rw [drop_split cs 0 1, e1]; exact congrArg (· ++ _) k0
 exact ⟨⟨x0, x1, x2, x3, x4, x5⟩, (List.drop_zero (l := cs)).symm.trans e0, hl, w0, w1, w2, w3, w4, w5⟩
theorem op24 : Opens Tryz.prog 24 1 (fun W xs cs => ∃ v, cs = [v] ∧ intEK.Rd W v xs) (fun xs => ∀ x ∈ xs, int64 x) := opens_slice op3 (by decide) (by kernel_rfl) (by kernel_rfl)
theorem fd54_0 : fldB Tryz.prog 54 0 = some (3, 0) := by kernel_rfl
theorem fd54_1 : fldB Tryz.prog 54 1 = some (3, 1) := by kernel_rfl
theorem fd54_2 : fldB Tryz.prog 54 2 = some (3, 2) := by kernel_rfl
theorem op54 : Opens Tryz.prog 54 3 (fun _ x cs => cs = Op.enc x) Op.wf := by
 refine ⟨by kernel_rfl, fun H enc W sp fuel cs y h => ?_⟩
 have hl : cs.length = 3 := (trod_len fd54_0 h).trans (by kernel_rfl)
 have e3 : cs.drop 3 = [] := List.drop_eq_nil_of_le (by omega)
 obtain ⟨x0, k0, w0⟩ := Opens.field op3 fd54_0 h
 obtain ⟨x1, k1, w1⟩ := Opens.field op3 fd54_1 h
 obtain ⟨x2, k2, w2⟩ := Opens.field op3 fd54_2 h
 have e2 : cs.drop 2 = [vi x2] ++ [] := by rw [drop_split cs 2 1, e3]; exact congrArg (· ++ _) k2
 have e1 : cs.drop 1 = [vi x1] ++ ([vi x2] ++ []) := by rw [drop_split cs 1 1, e2]; exact congrArg (· ++ _) k1
 have e0 : cs.drop 0 = [vi x0] ++ ([vi x1] ++ ([vi x2] ++ [])) := by rw [drop_split cs 0 1, e1]; exact congrArg (· ++ _) k0
 exact ⟨⟨x0, x1, x2⟩, (List.drop_zero (l := cs)).symm.trans e0, hl, w0, w1, w2⟩
theorem fd56_0 : fldB Tryz.prog 56 0 = some (3, 0) := by kernel_rfl
theorem fd56_1 : fldB Tryz.prog 56 1 = some (3, 1) := by kernel_rfl
theorem op56 : Opens Tryz.prog 56 2 (fun _ x cs => cs = Result.enc x) Result.wf := by
 refine ⟨by kernel_rfl, fun H enc W sp fuel cs y h => ?_⟩
 have hl : cs.length = 2 := (trod_len fd56_0 h).trans (by kernel_rfl)
 have e2 : cs.drop 2 = [] := List.drop_eq_nil_of_le (by omega)
 obtain ⟨x0, k0, w0⟩ := Opens.field op3 fd56_0 h
 obtain ⟨x1, k1, w1⟩ := Opens.field op3 fd56_1 h
 have e1 : cs.drop 1 = [vi x1] ++ [] := by rw [drop_split cs 1 1, e2]; exact congrArg (· ++ _) k1
 have e0 : cs.drop 0 = [vi x0] ++ ([vi x1] ++ []) := by rw [drop_split cs 0 1, e1]; exact congrArg (· ++ _) k0
 exact ⟨⟨x0, x1⟩, (List.drop_zero (l := cs)).symm.trans e0, hl, w0, w1⟩
theorem fd110_0 : fldB Tryz.prog 110 0 = some (3, 0) := by kernel_rfl
theorem fd110_1 : fldB Tryz.prog 110 1 = some (3, 1) := by kernel_rfl
theorem fd110_2 : fldB Tryz.prog 110 2 = some (3, 2) := by kernel_rfl
theorem fd110_3 : fldB Tryz.prog 110 3 = some (3, 3) := by kernel_rfl
theorem op110 : Opens Tryz.prog 110 4 (fun _ x cs => cs = Entry.enc x) Entry.wf := by
 refine ⟨by kernel_rfl, fun H enc W sp fuel cs y h => ?_⟩
 have hl : cs.length = 4 := (trod_len fd110_0 h).trans (by kernel_rfl)
 have e4 : cs.drop 4 = [] := List.drop_eq_nil_of_le (by omega)
 obtain ⟨x0, k0, w0⟩ := Opens.field op3 fd110_0 h
 obtain ⟨x1, k1, w1⟩ := Opens.field op3 fd110_1 h
 obtain ⟨x2, k2, w2⟩ := Opens.field op3 fd110_2 h
 obtain ⟨x3, k3, w3⟩ := Opens.field op3 fd110_3 h
 have e3 : cs.drop 3 = [vi x3] ++ [] := by rw [drop_split cs 3 1, e4]; exact congrArg (· ++ _) k3
 have e2 : cs.drop 2 = [vi x2] ++ ([vi x3] ++ []) := by rw [drop_split cs 2 1, e3]; exact congrArg (· ++ _) k2
 have e1 : cs.drop 1 = [vi x1] ++ ([vi x2] ++ ([vi x3] ++ [])) := by rw [drop_split cs 1 1, e2]; exact congrArg (· ++ _) k1
 have e0 : cs.drop 0 = [vi x0] ++ ([vi x1] ++ ([vi x2] ++ ([vi x3] ++ []))) := by rw [drop_split cs 0 1, e1]; exact congrArg (· ++ _) k0
 exact ⟨⟨x0, x1, x2, x3⟩, (List.drop_zero (l := cs)).symm.trans e0, hl, w0, w1, w2, w3⟩
theorem op57 : Opens Tryz.prog 57 1 (fun W xs cs => ∃ v, cs = [v] ∧ entryEK.Rd W v xs) (fun xs => ∀ x ∈ xs, Entry.wf x) := opens_slice op110 (by decide) (by kernel_rfl) (by kernel_rfl)
theorem fd59_0 : fldB Tryz.prog 59 0 = some (3, 0) := by kernel_rfl
theorem fd59_1 : fldB Tryz.prog 59 1 = some (54, 1) := by kernel_rfl
theorem fd59_2 : fldB Tryz.prog 59 2 = some (56, 4) := by kernel_rfl
theorem fd59_3 : fldB Tryz.prog 59 3 = some (3, 6) := by kernel_rfl
theorem fd59_4 : fldB Tryz.prog 59 4 = some (3, 7) := by kernel_rfl
theorem fd59_5 : fldB Tryz.prog 59 5 = some (3, 8) := by kernel_rfl
theorem fd59_6 : fldB Tryz.prog 59 6 = some (3, 9) := by kernel_rfl
theorem fd59_7 : fldB Tryz.prog 59 7 = some (3, 10) := by kernel_rfl
theorem fd59_8 : fldB Tryz.prog 59 8 = some (3, 11) := by kernel_rfl
theorem fd59_9 : fldB Tryz.prog 59 9 = some (3, 12) := by kernel_rfl
theorem fd59_10 : fldB Tryz.prog 59 10 = some (3, 13) := by kernel_rfl
theorem fd59_11 : fldB Tryz.prog 59 11 = some (24, 14) := by kernel_rfl
theorem fd59_12 : fldB Tryz.prog 59 12 = some (24, 15) := by kernel_rfl
theorem fd59_13 : fldB Tryz.prog 59 13 = some (57, 16) := by kernel_rfl
theorem fd59_14 : fldB Tryz.prog 59 14 = some (57, 17) := by kernel_rfl
theorem fd59_15 : fldB Tryz.prog 59 15 = some (24, 18) := by kernel_rfl
theorem op59 : Opens Tryz.prog 59 19 Thread.K Thread.wf := by
 refine ⟨by kernel_rfl, fun H enc W sp fuel cs y h => ?_⟩
 have hl : cs.length = 19 := (trod_len fd59_0 h).trans (by kernel_rfl)
 have e19 : cs.drop 19 = [] := List.drop_eq_nil_of_le (by omega)
 obtain ⟨x0, k0, w0⟩ := Opens.field op3 fd59_0 h
 obtain ⟨x1, k1, w1⟩ := Opens.field op54 fd59_1 h
 obtain ⟨x2, k2, w2⟩ := Opens.field op56 fd59_2 h
 obtain ⟨x3, k3, w3⟩ := Opens.field op3 fd59_3 h
 obtain ⟨x4, k4, w4⟩ := Opens.field op3 fd59_4 h
 obtain ⟨x5, k5, w5⟩ := Opens.field op3 fd59_5 h
 obtain ⟨x6, k6, w6⟩ := Opens.field op3 fd59_6 h
 obtain ⟨x7, k7, w7⟩ := Opens.field op3 fd59_7 h
 obtain ⟨x8, k8, w8⟩ := Opens.field op3 fd59_8 h
 obtain ⟨x9, k9, w9⟩ := Opens.field op3 fd59_9 h
 obtain ⟨x10, k10, w10⟩ := Opens.field op3 fd59_10 h
 obtain ⟨x11, ⟨v11, k11, r11⟩, w11⟩ := Opens.field op24 fd59_11 h
 obtain ⟨x12, ⟨v12, k12, r12⟩, w12⟩ := Opens.field op24 fd59_12 h
 obtain ⟨x13, ⟨v13, k13, r13⟩, w13⟩ := Opens.field op57 fd59_13 h
 obtain ⟨x14, ⟨v14, k14, r14⟩, w14⟩ := Opens.field op57 fd59_14 h
 obtain ⟨x15, ⟨v15, k15, r15⟩, w15⟩ := Opens.field op24 fd59_15 h
 have e18 : cs.drop 18 = [v15] ++ [] := by rw [drop_split cs 18 1, e19]; exact congrArg (· ++ _) k15
 have e17 : cs.drop 17 = [v14] ++ ([v15] ++ []) := by rw [drop_split cs 17 1, e18]; exact congrArg (· ++ _) k14
 have e16 : cs.drop 16 = [v13] ++ ([v14] ++ ([v15] ++ [])) := by rw [drop_split cs 16 1, e17]; exact congrArg (· ++ _) k13
 have e15 : cs.drop 15 = [v12] ++ ([v13] ++ ([v14] ++ ([v15] ++ []))) := by rw [drop_split cs 15 1, e16]; exact congrArg (· ++ _) k12
 have e14 : cs.drop 14 = [v11] ++ ([v12] ++ ([v13] ++ ([v14] ++ ([v15] ++ [])))) := by rw [drop_split cs 14 1, e15]; exact congrArg (· ++ _) k11
 have e13 : cs.drop 13 = [vi x10] ++ ([v11] ++ ([v12] ++ ([v13] ++ ([v14] ++ ([v15] ++ []))))) := by rw [drop_split cs 13 1, e14]; exact congrArg (· ++ _) k10
 have e12 : cs.drop 12 = [vi x9] ++ ([vi x10] ++ ([v11] ++ ([v12] ++ ([v13] ++ ([v14] ++ ([v15] ++ [])))))) := by rw [drop_split cs 12 1, e13]; exact congrArg (· ++ _) k9
 have e11 : cs.drop 11 = [vi x8] ++ ([vi x9] ++ ([vi x10] ++ ([v11] ++ ([v12] ++ ([v13] ++ ([v14] ++ ([v15] ++ []))))))) := by rw [drop_split cs 11 1, e12]; exact congrArg (· ++ _) k8
 have e10 : cs.drop 10 = [vi x7] ++ ([vi x8] ++ ([vi x9] ++ ([vi x10] ++ ([v11] ++ ([v12] ++ ([v13] ++ ([v14] ++ ([v15] ++ [])))))))) := by rw [drop_split cs 10 1, e11]; exact congrArg (· ++ _) k7
 have e9 : cs.drop 9 = [vi x6] ++ ([vi x7] ++ ([vi x8] ++ ([vi x9] ++ ([vi x10] ++ ([v11] ++ ([v12] ++ ([v13] ++ ([v14] ++ ([v15] ++ []))))))))) := by rw [drop_split cs 9 1, e10]; exact congrArg (· ++ _) k6
 have e8 : cs.drop 8 = [vi x5] ++ ([vi x6] ++ ([vi x7] ++ ([vi x8] ++ ([vi x9] ++ ([vi x10] ++ ([v11] ++ ([v12] ++ ([v13] ++ ([v14] ++ ([v15] ++ [])))))))))) := by rw [drop_split cs 8 1, e9]; exact congrArg (· ++ _) k5
 have e7 : cs.drop 7 = [vi x4] ++ ([vi x5] ++ ([vi x6] ++ ([vi x7] ++ ([vi x8] ++ ([vi x9] ++ ([vi x10] ++ ([v11] ++ ([v12] ++ ([v13] ++ ([v14] ++ ([v15] ++ []))))))))))) := by rw [drop_split cs 7 1, e8]; exact congrArg (· ++ _) k4
 have e6 : cs.drop 6 = [vi x3] ++ ([vi x4] ++ ([vi x5] ++ ([vi x6] ++ ([vi x7] ++ ([vi x8] ++ ([vi x9] ++ ([vi x10] ++ ([v11] ++ ([v12] ++ ([v13] ++ ([v14] ++ ([v15] ++ [])))))))))))) := by rw [drop_split cs 6 1, e7]; exact congrArg (· ++ _) k3
 have e4 : cs.drop 4 = Result.enc x2 ++ ([vi x3] ++ ([vi x4] ++ ([vi x5] ++ ([vi x6] ++ ([vi x7] ++ ([vi x8] ++ ([vi x9] ++ ([vi x10] ++ ([v11] ++ ([v12] ++ ([v13] ++ ([v14] ++ ([v15] ++ []))))))))))))) := by rw [drop_split cs 4 2, e6]; exact congrArg (· ++ _) k2
 have e1 : cs.drop 1 = Op.enc x1 ++ (Result.enc x2 ++ ([vi x3] ++ ([vi x4] ++ ([vi x5] ++ ([vi x6] ++ ([vi x7] ++ ([vi x8] ++ ([vi x9] ++ ([vi x10] ++ ([v11] ++ ([v12] ++ ([v13] ++ ([v14] ++ ([v15] ++ [])))))))))))))) := by rw [drop_split cs 1 3, e4]; exact congrArg (· ++ _) k1
 have e0 : cs.drop 0 = [vi x0] ++ (Op.enc x1 ++ (Result.enc x2 ++ ([vi x3] ++ ([vi x4] ++ ([vi x5] ++ ([vi x6] ++ ([vi x7] ++ ([vi x8] ++ ([vi x9] ++ ([vi x10] ++ ([v11] ++ ([v12] ++ ([v13] ++ ([v14] ++ ([v15] ++ []))))))))))))))) := by rw [drop_split cs 0 1, e1]; exact congrArg (· ++ _) k0
 exact ⟨⟨x0, x1, x2, x3, x4, x5, x6, x7, x8, x9, x10, x11, x12, x13, x14, x15⟩, ⟨v11, v12, v13, v14, v15, (List.drop_zero (l := cs)).symm.trans e0, r11, r12, r13, r14, r15⟩, hl, w0, w1, w2, w3, w4, w5, w6, w7, w8, w9, w10, w11, w12, w13, w14, w15⟩
theorem op25 : Opens Tryz.prog 25 1 (fun W xs cs => ∃ v, cs = [v] ∧ threadEK.Rd W v xs) (fun xs => ∀ x ∈ xs, Thread.wf x) := opens_slice op59 (by decide) (by kernel_rfl) (by kernel_rfl)
theorem fd27_0 : fldB Tryz.prog 27 0 = some (23, 0) := by kernel_rfl
theorem fd27_1 : fldB Tryz.prog 27 1 = some (24, 6) := by kernel_rfl
theorem fd27_2 : fldB Tryz.prog 27 2 = some (24, 7) := by kernel_rfl
theorem fd27_3 : fldB Tryz.prog 27 3 = some (25, 8) := by kernel_rfl
theorem fd27_4 : fldB Tryz.prog 27 4 = some (3, 9) := by kernel_rfl
theorem fd27_5 : fldB Tryz.prog 27 5 = some (3, 10) := by kernel_rfl
theorem fd27_6 : fldB Tryz.prog 27 6 = some (3, 11) := by kernel_rfl
theorem fd27_7 : fldB Tryz.prog 27 7 = some (3, 12) := by kernel_rfl
theorem op27 : Opens Tryz.prog 27 13 State.K State.wf := by
 refine ⟨by kernel_rfl, fun H enc W sp fuel cs y h => ?_⟩
 have hl : cs.length = 13 := (trod_len fd27_0 h).trans (by kernel_rfl)
 have e13 : cs.drop 13 = [] := List.drop_eq_nil_of_le (by omega)
 obtain ⟨x0, k0, w0⟩ := Opens.field op23 fd27_0 h
 obtain ⟨x1, ⟨v1, k1, r1⟩, w1⟩ := Opens.field op24 fd27_1 h
 obtain ⟨x2, ⟨v2, k2, r2⟩, w2⟩ := Opens.field op24 fd27_2 h
 obtain ⟨x3, ⟨v3, k3, r3⟩, w3⟩ := Opens.field op25 fd27_3 h
 obtain ⟨x4, k4, w4⟩ := Opens.field op3 fd27_4 h
 obtain ⟨x5, k5, w5⟩ := Opens.field op3 fd27_5 h
 obtain ⟨x6, k6, w6⟩ := Opens.field op3 fd27_6 h
 obtain ⟨x7, k7, w7⟩ := Opens.field op3 fd27_7 h
 have e12 : cs.drop 12 = [vi x7] ++ [] := by rw [drop_split cs 12 1, e13]; exact congrArg (· ++ _) k7
 have e11 : cs.drop 11 = [vi x6] ++ ([vi x7] ++ []) := by rw [drop_split cs 11 1, e12]; exact congrArg (· ++ _) k6
 have e10 : cs.drop 10 = [vi x5] ++ ([vi x6] ++ ([vi x7] ++ [])) := by rw [drop_split cs 10 1, e11]; exact congrArg (· ++ _) k5
 have e9 : cs.drop 9 = [vi x4] ++ ([vi x5] ++ ([vi x6] ++ ([vi x7] ++ []))) := by rw [drop_split cs 9 1, e10]; exact congrArg (· ++ _) k4
 have e8 : cs.drop 8 = [v3] ++ ([vi x4] ++ ([vi x5] ++ ([vi x6] ++ ([vi x7] ++ [])))) := by rw [drop_split cs 8 1, e9]; exact congrArg (· ++ _) k3
 have e7 : cs.drop 7 = [v2] ++ ([v3] ++ ([vi x4] ++ ([vi x5] ++ ([vi x6] ++ ([vi x7] ++ []))))) := by rw [drop_split cs 7 1, e8]; exact congrArg (· ++ _) k2
 have e6 : cs.drop 6 = [v1] ++ ([v2] ++ ([v3] ++ ([vi x4] ++ ([vi x5] ++ ([vi x6] ++ ([vi x7] ++ [])))))) := by rw [drop_split cs 6 1, e7]; exact congrArg (· ++ _) k1
 have e0 : cs.drop 0 = Config.enc x0 ++ ([v1] ++ ([v2] ++ ([v3] ++ ([vi x4] ++ ([vi x5] ++ ([vi x6] ++ ([vi x7] ++ []))))))) := by rw [drop_split cs 0 6, e6]; exact congrArg (· ++ _) k0
 exact ⟨⟨x0, x1, x2, x3, x4, x5, x6, x7⟩, ⟨v1, v2, v3, (List.drop_zero (l := cs)).symm.trans e0, r1, r2, r3⟩, hl, w0, w1, w2, w3, w4, w5, w6, w7⟩
namespace fnExactFormatState
open Go.ChangeShapes Go.WideShapes Go.ChangeAt Go.RowKit
theorem laidOut : laidOutB Tryz.prog = true := by kernel_rfl
theorem own : ownKnob Tryz.prog.godebug = none := by kernel_rfl
noncomputable def laid {H : Type} : List (String × DataW H) := [("math/bits.deBruijn32tab", Rows.laid_math_bits_deBruijn32tab), ("math/bits.deBruijn64tab", Rows.laid_math_bits_deBruijn64tab), ("internal/strconv.uint64pow10", Rows.laid_internal_strconv_uint64pow10)]
theorem door_met (os : Os) (args : Array Value) : laidMetH Tryz.prog laid ((World.doorLaid Tryz.prog 400 os).forCall (fun _ _ => 0) ⟨#[], args, []⟩).memory :=
  laidMetH_of_parts3 (fuel := 8) (laidMet_of_run' 8 (by kernel_rfl) (by kernel_rfl)) (by kernel_rfl) (by kernel_rfl)
theorem tab_of {W : World} (h : laidMetH Tryz.prog laid W) : Lib.TabIs Tryz.prog W "internal/strconv.uint64pow10" .u64 Lib.pow10Tab := by
 rw [MakeChecks.laidMetH_plain _ _ _ (by kernel_rfl)] at h
 exact Lib.tabIs_of_head (g := 1) (t := 147) (e := 129) (n := 20) (by kernel_rfl) (by kernel_rfl) (by kernel_rfl) (by kernel_rfl) (by kernel_rfl) (by kernel_rfl) (show laidMet Tryz.prog (("internal/strconv.uint64pow10", Lib.tabData .u64 Lib.pow10Tab) :: []) W from h.tail.tail)
theorem lifted (os : Os) (started : os.Started) (H : Type) (enc : TypeId × Value → H) :
    ReturnsInHanded {} Tryz.checked os 3 .any ((fun w args => (Rows.fnExactFormatStateSpec.pre enc Tryz.prog Tryz.f3 [] false w args ∧ laidMetH Tryz.prog laid w) ∧ sizedMet enc Tryz.prog Tryz.f3 (OpenSpec.ofChange Rows.fnExactFormatStateSpec) false w args)) (Rows.fnExactFormatStateSpec.post enc Tryz.prog Tryz.f3 false true false false) := by
  refine returnsInHanded_of_change_and (C := Tryz.checked) (X := fun w _ => laidMetH Tryz.prog laid w) (fun _ _ _ hh h => h.of_heap hh) own started (by kernel_rfl) Tryz.func3
    (ChangeSpec.witness_shaped (enc := enc) (C := Tryz.checked) (os := os) (X := fun w _ => laidMetH Tryz.prog laid w) false (World.doorLaid Tryz.prog 400 os) #[.agg #[.int .i64 0, .int .i64 0, .int .i64 0, .int .i64 0, .int .i64 0, .int .i64 0, .slice none 0 0, .slice none 0 0, .slice none 0 0, .int .i64 0, .int .i64 0, .int .i64 0, .int .i64 0]] 8 rfl (World.shaped_of_RefB (by kernel_rfl) (by kernel_rfl)) (by kernel_rfl) (by kernel_rfl) (by kernel_rfl) (door_met os _)) ?_
  intro W base args ds gs before hval0 hW hcnd hsz0 hL _
  have hT := tab_of hL
  have hval : ∀ (j : Nat) t v, Tryz.f3.params[j]? = some t → args[j]? = some v → Value.okWide Tryz.prog W .any base t v := hval0
  have hW' := hW
  obtain ⟨p, q, hA0, hV, rfl, hfz, hnd⟩ := hW
  have hA : DataW.TrodAll enc Tryz.prog W 0 (fun _ => true) true Tryz.f3.params.toList args.toList ds p := hA0
  rw [Tryz.params3] at hA hval
  obtain ⟨v0, vs0, d0, ds0, p0, q0, hargs, rfl, rfl, h0, r0⟩ := trodAll_cons hA
  obtain ⟨rfl, rfl, rfl⟩ := trodAll_nil r0
  obtain rfl : args = #[v0] := by cases args; simp_all
  obtain ⟨rfl, rfl⟩ := trodVars_none hV
  have kk0 := h0
  have lt0 : ∀ x ∈ p0, x.block < W.heap.size := by obtain ⟨m, hm⟩ := kk0; exact DataW.trod_lt m _ _ _ hm
  obtain ⟨c0, rfl⟩ := okWide_struct fd27_0 (hval 0 27 v0 rfl rfl)
  obtain ⟨m0, hm0⟩ := h0; rw [agg_cells] at hm0
  obtain ⟨x0, k0, _, ok0⟩ := (op27).2 _ _ _ _ _ _ _ hm0; clear hm0
  clear hA0 hval0
  refine (law_FnExactFormatState k0 ok0 hT).mono ?_
  rintro e W' ⟨v, rfl, rfl, bel⟩
  exact ⟨_, rfl, _, _, _, [], _, [], hW', trodAll_mk1 (shut_bool (by kernel_rfl : Tryz.prog.underlying 4 = some .bool) _), (trodAll_cons_mk (Below.trod laidOut (by kernel_rfl) (of_decide_eq_true (by kernel_rfl)) kk0 bel lt0) trodAll_mk0), rfl, bel.frame _, fun h => by cases h⟩
def restSigns : List Char := Sl.ch [97, 116, 32, 108, 111, 111, 112, 46, 101, 120, 97, 109, 112, 108, 101, 47, 103, 48, 49, 54, 50, 56, 47, 108, 97, 119, 115, 46, 70, 110, 69, 120, 97, 99, 116, 70, 111, 114, 109, 97, 116, 83, 116, 97, 116, 101]
theorem order : Tryz.pinned.checked.prog.initOrder = String.ofList (Sl.ch [104, 97, 114, 110, 101, 115, 115] ++ Sl.sp :: (Sl.ch [98, 98, 99, 98, 50, 48, 50, 55, 98, 52, 54, 98, 56, 55, 100, 101, 49, 99, 102, 57, 49, 49, 100, 102, 50, 48, 51, 57, 49, 56, 55, 51, 51, 99, 99, 52, 49, 97, 98, 57, 55, 52, 100, 54, 55, 49, 98, 52, 53, 48, 53, 54, 56, 56, 53, 100, 52, 49, 54, 55, 57, 51, 48, 98] ++ Sl.sp :: (Sl.ch [99, 117, 116] ++ Sl.sp :: restSigns))) := by kernel_rfl
theorem behind (X : List (List Char)) : behindMainWord (Sl.ch [104, 97, 114, 110, 101, 115, 115] :: Sl.ch [98, 98, 99, 98, 50, 48, 50, 55, 98, 52, 54, 98, 56, 55, 100, 101, 49, 99, 102, 57, 49, 49, 100, 102, 50, 48, 51, 57, 49, 56, 55, 51, 51, 99, 99, 52, 49, 97, 98, 57, 55, 52, 100, 54, 55, 49, 98, 52, 53, 48, 53, 54, 56, 56, 53, 100, 52, 49, 54, 55, 57, 51, 48, 98] :: Sl.ch [99, 117, 116] :: X) = "cut".toList :: X := by kernel_rfl
theorem heads : behindMainWord (wordsSigns Tryz.pinned.checked.prog.initOrder.toList) = "cut".toList :: wordsSigns restSigns := by
 rw [order, String.toList_ofList, Sl.words_sp _ _ (by decide), Sl.words_sp _ _ (by decide), Sl.words_sp _ _ (by decide)]; exact behind _
theorem facts : joinedFacts Tryz.pinned.checked.prog 3 Tryz.f3 Rows.fnExactFormatStateSpec Rows.fnExactFormatStateRow = true := by
 unfold joinedFacts; rw [Sl.enter_of heads (by kernel_rfl) (by kernel_rfl) (by kernel_rfl), Sl.final_of heads, Sl.made_of heads]; kernel_rfl
theorem over : Rows.fnExactFormatStateRow.holds Tryz.pinned (OpenSpec.ofChange Rows.fnExactFormatStateSpec) :=
  OpenClaim.holds_of_wide 3 Tryz.f3 rfl rfl rfl rfl rfl rfl rfl ⟨rfl, rfl, rfl, rfl, rfl⟩ rfl rfl rfl rfl rfl (by kernel_rfl) Tryz.func3 facts
    (of_decide_eq_true (by kernel_rfl)) (by unfold Func.isWrapper; first | (rw [if_pos (by decide +kernel)]; kernel_rfl) | (rw [if_neg (by decide +kernel)]; exact ⟨rfl, rfl⟩))
    (fun os started H enc _ => lifted os started H enc)
theorem proved : Rows.FnExactFormatStateSaid := over
theorem cardHolds : Rows.FnExactFormatStateCardSaid :=
  Claim7.holds_tied_plain_at .later [] [.data, .data, .data] true (true, "bbcb2027b46b87de1cf911df203918733cc41ab974d671b45056885d4167930b") false
    proved (fun _ h => by cases h) (by kernel_rfl) (fun _ h => by cases h) fnExactFormatState_row_tie rfl ⟨rfl, rfl⟩ (by kernel_rfl) rfl
    (fun f fn hf hfn => by
      obtain rfl : f = 3 := Option.some.inj ((show Tryz.prog.funcNamed "loop.example/g01628/laws.FnExactFormatState" = some 3 by kernel_rfl).symm.trans hf) |>.symm
      obtain rfl : fn = Tryz.f3 := (Option.some.inj (Tryz.func3.symm.trans hfn)).symm
      exact ⟨by kernel_rfl, fun j t ht => by
        rw [Tryz.params3] at ht
        have hm : t ∈ [27] := by simpa using Array.mem_of_getElem? ht
        have hall : ([27].all fun u => !Tryz.prog.wantsStandIn u) = true := by kernel_rfl
        exact (show Tryz.prog.wantsStandIn t = false by simpa using List.all_eq_true.1 hall t hm)⟩)
    (by kernel_rfl)
end fnExactFormatState
/-- The row, under a short name. -/
theorem fnExactFormatStateCard_holds : Rows.FnExactFormatStateCardSaid := fnExactFormatState.cardHolds
end Go.Proofs.YtbgacfdnmbhloaaGreatDoor
