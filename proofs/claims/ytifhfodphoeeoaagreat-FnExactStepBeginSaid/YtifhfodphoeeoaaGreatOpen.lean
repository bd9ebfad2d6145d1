/- Opening a law's arguments: what data that can be read says of the cells that hold it. No program in sight. -/
import Derived.Test.YtifhfodphoeeoaaGreatTypes
import Derived.WalkKit
import Derived.ProofKit
import Derived.OpenShut
import Derived.ChangeOld
import Derived.Below
import Derived.SizedLaws
namespace Go.Proofs.YtifhfodphoeeoaaGreat.Sl
open Go Go.RowKit Go.ChangeShapes Go.WideShapes Go.ChangeAt
set_option linter.unusedVariables false
set_option linter.unusedSimpArgs false

/-- data of type t reads as an x of which K and ok hold -/
def Opens (P : Program) (t : TypeId) {α : Type} (sz : Nat) (K : World → α → List Value → Prop) (ok : α → Prop) : Prop :=
  P.cellsOf t = sz ∧ ∀ (H : Type) (enc : TypeId × Value → H) (W : World) (sp : Nat → Bool) (fuel : Nat) (cs : List Value) (y : DataW H × List MemPlace),
    DataW.trod enc P W 0 sp true fuel t cs = some y → ∃ x, K W x cs ∧ cs.length = sz ∧ ok x

def int64 (n : Int) : Prop := -9223372036854775808 ≤ n ∧ n ≤ 9223372036854775807

abbrev Config.wf (c : Config) : Prop := int64 c.threads ∧ int64 c.keys ∧ int64 c.capacity ∧ int64 c.batch ∧ int64 c.policy ∧ int64 c.clockMax
abbrev Op.wf (o : Op) : Prop := int64 o.kind ∧ int64 o.key ∧ int64 o.value
abbrev Entry.wf (e : Entry) : Prop := int64 e.handle ∧ int64 e.key ∧ int64 e.low ∧ int64 e.high
abbrev Result.wf (r : Result) : Prop := int64 r.code ∧ int64 r.value
abbrev Event.wf (e : Event) : Prop := int64 e.thread ∧ e.op.wf ∧ e.result.wf ∧ int64 e.start ∧ int64 e.fin
abbrev Thread.wf (t : Thread) : Prop := int64 t.pc ∧ t.op.wf ∧ t.result.wf ∧ int64 t.snapshot ∧ int64 t.node ∧ int64 t.prev ∧ int64 t.curr ∧ int64 t.next ∧ int64 t.seen ∧ int64 t.stamp ∧ int64 t.at_ ∧ (∀ x ∈ t.found, int64 x) ∧ (∀ x ∈ t.free, int64 x) ∧ (∀ x ∈ t.buffer, x.wf) ∧ (∀ x ∈ t.work, x.wf) ∧ (∀ x ∈ t.limbo, int64 x)

abbrev State.wf (s : State) : Prop := s.config.wf ∧ (∀ x ∈ s.cells, int64 x) ∧ (∀ x ∈ s.generations, int64 x) ∧ (∀ x ∈ s.threads, x.wf) ∧ int64 s.steps ∧ int64 s.changes ∧ int64 s.retries ∧ int64 s.faults
abbrev Machine.wf (m : Machine) : Prop := m.state.wf ∧ (∀ x ∈ m.programs, ∀ y ∈ x, y.wf) ∧ (∀ x ∈ m.next, int64 x) ∧ (∀ x ∈ m.events, x.wf) ∧ int64 m.time
abbrev Model.wf (m : Model) : Prop := (∀ x ∈ m.values, int64 x) ∧ (∀ x ∈ m.snapshots, ∀ y ∈ x, int64 y)
section
variable {P : Program} {t : TypeId}
theorem wf_i64 {n : Int} (h : (Lit.int .i64 n).wf = true) : int64 n := by
  simp [Lit.wf, IntKind.min, IntKind.max, IntKind.signed, IntKind.bits] at h
  unfold int64
  omega
theorem opens_int (ht : P.underlying t = some (.int .i64)) (hc : P.cellsOf t = 1) : Opens P t 1 (fun _ n cs => cs = [vi n]) int64 := by
  refine ⟨hc, fun H enc W sp fuel cs y h => ?_⟩
  obtain ⟨n, rfl, _, hw⟩ := DataW.trod_int ht h
  exact ⟨n, rfl, rfl, wf_i64 hw⟩
theorem opens_bool (ht : P.underlying t = some .bool) (hc : P.cellsOf t = 1) : Opens P t 1 (fun _ b cs => cs = [.bool b]) (fun _ => True) := by
  refine ⟨hc, fun H enc W sp fuel cs y h => ?_⟩
  obtain ⟨b, rfl, _⟩ := DataW.trod_bool ht h
  exact ⟨b, rfl, rfl, trivial⟩

/-- a struct's field: its type, its place -/
def fldB (P : Program) (t : TypeId) (i : Nat) : Option (TypeId × Nat) :=
  match P.underlying t with
  | some (.struct fs) => (fs[i]?).map fun f => (f.type, f.offset)
  | _ => none
theorem trod_len {i : Nat} {T o : Nat} (hf : fldB P t i = some (T, o)) {H : Type} {enc : TypeId × Value → H} {W : World} {sp : Nat → Bool} {hd : Bool} {fuel : Nat} {cs : List Value} {y : DataW H × List MemPlace} (h : DataW.trod enc P W 0 sp hd fuel t cs = some y) : cs.length = P.cellsOf t := by
  unfold fldB at hf
  split at hf
  · rename_i fs hfs
    obtain ⟨xs, n, _, _, hl, _⟩ := DataW.trod_struct hfs h
    exact hl
  · simp at hf
theorem trod_field {i : Nat} {T o : Nat} (hf : fldB P t i = some (T, o)) {H : Type} {enc : TypeId × Value → H} {W : World} {sp : Nat → Bool} {hd : Bool} {fuel : Nat} {cs : List Value} {y : DataW H × List MemPlace} (h : DataW.trod enc P W 0 sp hd fuel t cs = some y) :
    ∃ n y', DataW.trod enc P W 0 sp hd n T ((cs.drop o).take (P.cellsOf T)) = some y' := by
  unfold fldB at hf
  split at hf
  · rename_i fs hfs
    obtain ⟨f, hfi, hfe⟩ := Option.map_eq_some_iff.1 hf
    simp only [Prod.mk.injEq] at hfe
    obtain ⟨rfl, rfl⟩ := hfe
    obtain ⟨xs, n, _, _, _, hlen, hf⟩ := DataW.trod_struct hfs h
    have hi : i < xs.length := by rw [hlen]; exact (Array.getElem?_eq_some_iff.1 hfi).1
    exact ⟨n, xs[i], by rw [hf i f hfi]; exact List.getElem?_eq_getElem hi⟩
  · simp at hf
/-- a field, opened -/
theorem Opens.field {α : Type} {sz : Nat} {K : World → α → List Value → Prop} {ok : α → Prop} {i T o : Nat} (hT : Opens P T sz K ok) (hf : fldB P t i = some (T, o)) {H : Type} {enc : TypeId × Value → H} {W : World} {sp : Nat → Bool} {fuel : Nat} {cs : List Value} {y : DataW H × List MemPlace}
    (h : DataW.trod enc P W 0 sp true fuel t cs = some y) : ∃ x, K W x ((cs.drop o).take sz) ∧ ok x := by
  obtain ⟨n, y', h'⟩ := trod_field hf h
  obtain ⟨x, h1, h2, h3⟩ := hT.2 _ _ _ _ _ _ _ h'
  rw [hT.1] at h1
  exact ⟨x, h1, h3⟩
theorem drop_split (cs : List Value) (o s : Nat) : cs.drop o = (cs.drop o).take s ++ cs.drop (o + s) := by
  rw [← List.drop_drop, List.take_append_drop]

theorem okWide_struct {i : Nat} {x : TypeId × Nat} (hf : fldB P t i = some x) {w : World} {r : Reach} {b : Nat} {v : Value} (h : Value.okWide P w r b t v) : ∃ cs : List Value, v = .agg cs.toArray := by
  unfold fldB at hf
  split at hf
  · rename_i fs hfs
    simp only [Value.okWide, hfs] at h
    obtain ⟨cs, rfl, _⟩ := h
    exact ⟨cs.toList, by simp⟩
  · simp at hf
theorem agg_cells (cs : List Value) : (Value.agg cs.toArray).cells.toList = cs := rfl
theorem opens_slice {α : Type} {sz : Nat} {K : World → α → List Value → Prop} {ok : α → Prop} {e : TypeId} (he : Opens P e sz K ok) (hsz : 0 < sz) (ht : P.underlying t = some (.slice e)) (hc : P.cellsOf t = 1) :
    Opens P t 1 (fun W xs cs => ∃ v, cs = [v] ∧ Rd sz K W v xs) (fun xs => ∀ x ∈ xs, ok x) := by
  refine ⟨hc, fun H enc W sp fuel cs y h => ?_⟩
  rcases DataW.trod_slice ht h with ⟨rfl, _⟩ | ⟨a, len, cap, elems, rest, n, _, rfl, _, _, hl, hm, hlen, hel, _⟩
  · exact ⟨[], ⟨_, rfl, Rd.nil _ _ _⟩, rfl, by simp⟩
  · have cell0 : 0 < len → a.spot = none := by
      intro h0
      have hz := hel 0 h0
      rw [List.getElem?_eq_getElem (by omega)] at hz
      obtain ⟨cells, hcells, hz⟩ := Option.bind_eq_some_iff.1 hz
      obtain ⟨_, hcl, hcc⟩ := World.cells?_some hcells
      rw [he.1] at hcc hcl
      have h1 := hcc 0 hsz
      rw [Nat.zero_mul, Addr.add_zero', Addr.add_zero', List.getElem?_eq_getElem (by omega)] at h1
      unfold World.cell? at h1
      cases hs : a.spot with
      | none => rfl
      | some q => rw [hs] at h1; split at h1 <;> simp at h1
    have key : ∀ i, i < len → ∃ x, (∃ g o, a = ⟨g, o, none⟩ ∧ ∃ cs, K W x cs ∧ cs.length = sz ∧ ∀ j u, cs[j]? = some u → W.cell? ⟨g, o + i * sz + j, none⟩ = some u) ∧ ok x := by
      intro i hi
      have hsp := cell0 (by omega)
      have hz := hel i hi
      rw [List.getElem?_eq_getElem (by omega)] at hz
      obtain ⟨cells, hcells, hz⟩ := Option.bind_eq_some_iff.1 hz
      obtain ⟨x, h1, h2, h3⟩ := he.2 _ _ _ _ _ _ _ hz
      refine ⟨x, ?_, h3⟩
      obtain ⟨_, _, hcc⟩ := World.cells?_some hcells
      rw [he.1] at hcc
      obtain ⟨g, o, sp'⟩ := a
      obtain rfl : sp' = none := hsp
      refine ⟨g, o, rfl, cells, h1, h2, fun j u hu => ?_⟩
      have hj : j < sz := by
        have := (List.getElem?_eq_some_iff.1 hu).1
        omega
      have := hcc j hj
      rw [Addr.add_lit, Addr.add_lit, hu] at this
      exact this
    rcases Nat.eq_zero_or_pos len with h0 | hp
    · subst h0
      exact ⟨[], ⟨_, rfl, some a, 0, cap, rfl, rfl, Nat.zero_le _, Nat.zero_le _, fun i x hx => by simp at hx⟩, rfl, by simp⟩
    have hch : ∃ f : Nat → α, ∀ i, i < len → (∃ g o, a = ⟨g, o, none⟩ ∧ ∃ cs, K W (f i) cs ∧ cs.length = sz ∧ ∀ j u, cs[j]? = some u → W.cell? ⟨g, o + i * sz + j, none⟩ = some u) ∧ ok (f i) := by
      obtain ⟨x0, _⟩ := key 0 hp
      refine ⟨fun i => if h : i < len then Classical.choose (key i h) else x0, fun i hi => ?_⟩
      simp only [dif_pos hi]
      exact Classical.choose_spec (key i hi)
    obtain ⟨f, hf⟩ := hch
    refine ⟨(List.range len).map f, ⟨_, rfl, some a, len, cap, rfl, by simp, hl, Nat.le_trans hl hm, fun i x hx => ?_⟩, rfl, fun x hx => ?_⟩
    · simp only [List.getElem?_map] at hx
      obtain ⟨i', hi', rfl⟩ := Option.map_eq_some_iff.1 hx
      obtain ⟨hlt, e⟩ := List.getElem?_eq_some_iff.1 hi'
      simp at e hlt
      subst e
      obtain ⟨⟨g, o, ha, cs, h1, h2, h3⟩, _⟩ := hf i hlt
      exact ⟨g, o, by rw [ha], cs, h1, h2, h3⟩
    · obtain ⟨i, hi, rfl⟩ := List.mem_map.1 hx
      exact (hf i (by simpa using hi)).2
end
end Go.Proofs.YtifhfodphoeeoaaGreat.Sl
