/- The plain types behind the program's structs, and the kinds of elements that its slices hold. No program in sight. -/
import Derived.Test.YtifhfodphoeeoaaGreatOps
namespace Go.Proofs.YtifhfodphoeeoaaGreat.Sl
open Go Go.RowKit
set_option linter.unusedVariables false

abbrev vi (n : Int) : Value := .int .i64 n

structure Config where
  threads : Int
  keys : Int
  capacity : Int
  batch : Int
  policy : Int
  clockMax : Int
structure Op where
  kind : Int
  key : Int
  value : Int
structure Entry where
  handle : Int
  key : Int
  low : Int
  high : Int
structure Result where
  code : Int
  value : Int
structure Event where
  thread : Int
  op : Op
  result : Result
  start : Int
  fin : Int

instance : DecidableEq Config := fun a b => decidable_of_iff (a.threads = b.threads ∧ a.keys = b.keys ∧ a.capacity = b.capacity ∧ a.batch = b.batch ∧ a.policy = b.policy ∧ a.clockMax = b.clockMax) (by cases a; cases b; simp)
instance : DecidableEq Op := fun a b => decidable_of_iff (a.kind = b.kind ∧ a.key = b.key ∧ a.value = b.value) (by cases a; cases b; simp)
instance : DecidableEq Entry := fun a b => decidable_of_iff (a.handle = b.handle ∧ a.key = b.key ∧ a.low = b.low ∧ a.high = b.high) (by cases a; cases b; simp)
instance : DecidableEq Result := fun a b => decidable_of_iff (a.code = b.code ∧ a.value = b.value) (by cases a; cases b; simp)
instance : DecidableEq Event := fun a b => decidable_of_iff (a.thread = b.thread ∧ a.op = b.op ∧ a.result = b.result ∧ a.start = b.start ∧ a.fin = b.fin) (by cases a; cases b; simp)

def Config.enc (c : Config) : List Value := [vi c.threads, vi c.keys, vi c.capacity, vi c.batch, vi c.policy, vi c.clockMax]
def Op.enc (o : Op) : List Value := [vi o.kind, vi o.key, vi o.value]
def Entry.enc (e : Entry) : List Value := [vi e.handle, vi e.key, vi e.low, vi e.high]
def Result.enc (r : Result) : List Value := [vi r.code, vi r.value]
def Event.enc (e : Event) : List Value := [vi e.thread, vi e.op.kind, vi e.op.key, vi e.op.value, vi e.result.code, vi e.result.value, vi e.start, vi e.fin]

instance : Inhabited Config := ⟨⟨0, 0, 0, 0, 0, 0⟩⟩
instance : Inhabited Op := ⟨⟨0, 0, 0⟩⟩
instance : Inhabited Entry := ⟨⟨0, 0, 0, 0⟩⟩
instance : Inhabited Result := ⟨⟨0, 0⟩⟩
instance : Inhabited Event := ⟨⟨0, ⟨0, 0, 0⟩, ⟨0, 0⟩, 0, 0⟩⟩
/-- what IsConfig asks -/
def Config.ok (c : Config) : Prop := 1 ≤ c.threads ∧ c.threads ≤ 4 ∧ 1 ≤ c.keys ∧ c.keys ≤ 4 ∧ 1 ≤ c.capacity ∧ c.capacity ≤ 24 ∧ 1 ≤ c.batch ∧ c.batch ≤ 4 ∧ 0 ≤ c.policy ∧ c.policy ≤ 2 ∧ 1 ≤ c.clockMax ∧ c.clockMax ≤ 99
instance (c : Config) : Decidable c.ok := by unfold Config.ok; infer_instance
def limboLimit (c : Config) : Int := if c.ok then 2 * c.threads + c.batch else 0

abbrev intEK : EK Int := flatEK 1 (fun n => [vi n]) (fun _ => rfl) (fun x u hu => by simp at hu; subst hu; rfl)
abbrev boolEK : EK Bool := flatEK 1 (fun b => [.bool b]) (fun _ => rfl) (fun x u hu => by simp at hu; subst hu; rfl)
abbrev opEK : EK Op := flatEK 3 Op.enc (fun _ => rfl) (fun x u hu => by simp [Op.enc] at hu; rcases hu with h | h | h <;> subst h <;> rfl)
abbrev entryEK : EK Entry := flatEK 4 Entry.enc (fun _ => rfl) (fun x u hu => by simp [Entry.enc] at hu; rcases hu with h | h | h | h <;> subst h <;> rfl)
abbrev eventEK : EK Event := flatEK 8 Event.enc (fun _ => rfl) (fun x u hu => by simp [Event.enc] at hu; rcases hu with h | h | h | h | h | h | h | h <;> subst h <;> rfl)

abbrev stringEK : EK ByteArray := flatEK 1 (fun s => [.string s]) (fun _ => rfl) (fun x u hu => by simp at hu; subst hu; rfl)
/-- slices as elements -/
def sliceEK {α : Type} (ek : EK α) : EK (List α) where
  sz := 1
  cells := fun _ vs => [sv (vs.getD 0 (none, 0, 0))]
  inner := fun x vs => [Own ek (sv (vs.getD 0 (none, 0, 0))) x]
  K := fun w x cs => ∃ v, cs = [v] ∧ ek.Rd w v x
  len := fun _ _ => rfl
  one := fun x vs u hu => by simp at hu; subst hu; rfl
  rd := fun {x vs S w} h => ⟨_, rfl, own_rd (h.get (i := 0) rfl)⟩
  ext := fun hb ⟨v, h1, h2⟩ => ⟨v, h1, h2.mov hb⟩
  klen := fun ⟨v, h1, _⟩ => by rw [h1]; rfl

structure Thread where
  pc : Int
  op : Op
  result : Result
  snapshot : Int
  node : Int
  prev : Int
  curr : Int
  next : Int
  seen : Int
  stamp : Int
  at_ : Int
  found : List Int
  free : List Int
  buffer : List Entry
  work : List Entry
  limbo : List Int

def Thread.encv (t : Thread) (v1 v2 v3 v4 v5 : Value) : List Value :=
  [vi t.pc, vi t.op.kind, vi t.op.key, vi t.op.value, vi t.result.code, vi t.result.value, vi t.snapshot, vi t.node, vi t.prev, vi t.curr, vi t.next, vi t.seen, vi t.stamp, vi t.at_, v1, v2, v3, v4, v5]
@[reducible] def Thread.K (w : World) (t : Thread) (cs : List Value) : Prop :=
  ∃ v1 v2 v3 v4 v5, cs = t.encv v1 v2 v3 v4 v5 ∧ intEK.Rd w v1 t.found ∧ intEK.Rd w v2 t.free ∧ entryEK.Rd w v3 t.buffer ∧ entryEK.Rd w v4 t.work ∧ intEK.Rd w v5 t.limbo
def threadEK : EK Thread where
  sz := 19
  cells := fun t vs => t.encv (sv (vs.getD 0 (none, 0, 0))) (sv (vs.getD 1 (none, 0, 0))) (sv (vs.getD 2 (none, 0, 0))) (sv (vs.getD 3 (none, 0, 0))) (sv (vs.getD 4 (none, 0, 0)))
  inner := fun t vs => [Own intEK (sv (vs.getD 0 (none, 0, 0))) t.found, Own intEK (sv (vs.getD 1 (none, 0, 0))) t.free, Own entryEK (sv (vs.getD 2 (none, 0, 0))) t.buffer, Own entryEK (sv (vs.getD 3 (none, 0, 0))) t.work, Own intEK (sv (vs.getD 4 (none, 0, 0))) t.limbo]
  K := Thread.K
  len := fun _ _ => rfl
  one := fun x vs u hu => by
    simp only [Thread.encv, List.mem_cons, List.not_mem_nil, or_false] at hu
    rcases hu with h | h | h | h | h | h | h | h | h | h | h | h | h | h | h | h | h | h | h <;> subst h <;> rfl
  rd := fun {x vs S w} h => ⟨_, _, _, _, _, rfl, own_rd (h.get (i := 0) rfl), own_rd (h.get (i := 1) rfl), own_rd (h.get (i := 2) rfl), own_rd (h.get (i := 3) rfl), own_rd (h.get (i := 4) rfl)⟩
  ext := fun hb ⟨v1, v2, v3, v4, v5, h, h1, h2, h3, h4, h5⟩ => ⟨v1, v2, v3, v4, v5, h, h1.mov hb, h2.mov hb, h3.mov hb, h4.mov hb, h5.mov hb⟩
  klen := fun ⟨v1, v2, v3, v4, v5, h, _⟩ => by rw [h]; rfl

instance : DecidableEq Thread := fun a b => decidable_of_iff (a.pc = b.pc ∧ a.op = b.op ∧ a.result = b.result ∧ a.snapshot = b.snapshot ∧ a.node = b.node ∧ a.prev = b.prev ∧ a.curr = b.curr ∧ a.next = b.next ∧ a.seen = b.seen ∧ a.stamp = b.stamp ∧ a.at_ = b.at_ ∧ a.found = b.found ∧ a.free = b.free ∧ a.buffer = b.buffer ∧ a.work = b.work ∧ a.limbo = b.limbo) (by cases a; cases b; simp)
instance : Inhabited Thread := ⟨⟨0, ⟨0, 0, 0⟩, ⟨0, 0⟩, 0, 0, 0, 0, 0, 0, 0, 0, [], [], [], [], []⟩⟩
structure Model where
  values : List Int
  snapshots : List (List Int)
def Model.encv (m : Model) (v1 v2 : Value) : List Value := [v1, v2]
@[reducible] def Model.K (w : World) (m : Model) (cs : List Value) : Prop := ∃ v1 v2, cs = m.encv v1 v2 ∧ intEK.Rd w v1 m.values ∧ (sliceEK intEK).Rd w v2 m.snapshots
def modelEK : EK Model where
  sz := 2
  cells := fun m vs => m.encv (sv (vs.getD 0 (none, 0, 0))) (sv (vs.getD 1 (none, 0, 0)))
  inner := fun m vs => [Own intEK (sv (vs.getD 0 (none, 0, 0))) m.values, Own (sliceEK intEK) (sv (vs.getD 1 (none, 0, 0))) m.snapshots]
  K := Model.K
  len := fun _ _ => rfl
  one := fun x vs u hu => by
    simp only [Model.encv, List.mem_cons, List.not_mem_nil, or_false] at hu
    rcases hu with h | h <;> subst h <;> rfl
  rd := fun {x vs S w} h => ⟨_, _, rfl, own_rd (h.get (i := 0) rfl), own_rd (h.get (i := 1) rfl)⟩
  ext := fun hb ⟨v1, v2, h, h1, h2⟩ => ⟨v1, v2, h, h1.mov hb, h2.mov hb⟩
  klen := fun ⟨v1, v2, h, _⟩ => by rw [h]; rfl
instance : DecidableEq Model := fun a b => decidable_of_iff (a.values = b.values ∧ a.snapshots = b.snapshots) (by cases a; cases b; simp)

structure State where
  config : Config
  cells : List Int
  generations : List Int
  threads : List Thread
  steps : Int
  changes : Int
  retries : Int
  faults : Int
def State.encv (s : State) (v0 v1 v2 : Value) : List Value := [vi s.config.threads, vi s.config.keys, vi s.config.capacity, vi s.config.batch, vi s.config.policy, vi s.config.clockMax, v0, v1, v2, vi s.steps, vi s.changes, vi s.retries, vi s.faults]
@[reducible] def State.K (w : World) (s : State) (cs : List Value) : Prop := ∃ v0 v1 v2, cs = s.encv v0 v1 v2 ∧ intEK.Rd w v0 s.cells ∧ intEK.Rd w v1 s.generations ∧ threadEK.Rd w v2 s.threads
def stateEK : EK State where
  sz := 13
  cells := fun s vs => s.encv (sv (vs.getD 0 (none, 0, 0))) (sv (vs.getD 1 (none, 0, 0))) (sv (vs.getD 2 (none, 0, 0)))
  inner := fun s vs => [Own intEK (sv (vs.getD 0 (none, 0, 0))) s.cells, Own intEK (sv (vs.getD 1 (none, 0, 0))) s.generations, Own threadEK (sv (vs.getD 2 (none, 0, 0))) s.threads]
  K := State.K
  len := fun _ _ => rfl
  one := fun x vs u hu => by
    simp only [State.encv, List.mem_cons, List.not_mem_nil, or_false] at hu
    rcases hu with h | h | h | h | h | h | h | h | h | h | h | h | h <;> subst h <;> rfl
  rd := fun {x vs S w} h => ⟨_, _, _, rfl, own_rd (h.get (i := 0) rfl), own_rd (h.get (i := 1) rfl), own_rd (h.get (i := 2) rfl)⟩
  ext := fun hb ⟨v0, v1, v2, h, h1, h2, h3⟩ => ⟨v0, v1, v2, h, h1.mov hb, h2.mov hb, h3.mov hb⟩
  klen := fun ⟨v0, v1, v2, h, _⟩ => by rw [h]; rfl
instance : DecidableEq State := fun a b => decidable_of_iff (a.config = b.config ∧ a.cells = b.cells ∧ a.generations = b.generations ∧ a.threads = b.threads ∧ a.steps = b.steps ∧ a.changes = b.changes ∧ a.retries = b.retries ∧ a.faults = b.faults) (by cases a; cases b; simp)
structure Machine where
  state : State
  programs : List (List Op)
  next : List Int
  events : List Event
  time : Int
def Machine.encv (m : Machine) (v0 v1 v2 v3 v4 v5 : Value) : List Value := [vi m.state.config.threads, vi m.state.config.keys, vi m.state.config.capacity, vi m.state.config.batch, vi m.state.config.policy, vi m.state.config.clockMax, v0, v1, v2, vi m.state.steps, vi m.state.changes, vi m.state.retries, vi m.state.faults, v3, v4, v5, vi m.time]
@[reducible] def Machine.K (w : World) (m : Machine) (cs : List Value) : Prop := ∃ v0 v1 v2 v3 v4 v5, cs = m.encv v0 v1 v2 v3 v4 v5 ∧ intEK.Rd w v0 m.state.cells ∧ intEK.Rd w v1 m.state.generations ∧ threadEK.Rd w v2 m.state.threads ∧ (sliceEK opEK).Rd w v3 m.programs ∧ intEK.Rd w v4 m.next ∧ eventEK.Rd w v5 m.events
def machineEK : EK Machine where
  sz := 17
  cells := fun m vs => m.encv (sv (vs.getD 0 (none, 0, 0))) (sv (vs.getD 1 (none, 0, 0))) (sv (vs.getD 2 (none, 0, 0))) (sv (vs.getD 3 (none, 0, 0))) (sv (vs.getD 4 (none, 0, 0))) (sv (vs.getD 5 (none, 0, 0)))
  inner := fun m vs => [Own intEK (sv (vs.getD 0 (none, 0, 0))) m.state.cells, Own intEK (sv (vs.getD 1 (none, 0, 0))) m.state.generations, Own threadEK (sv (vs.getD 2 (none, 0, 0))) m.state.threads, Own (sliceEK opEK) (sv (vs.getD 3 (none, 0, 0))) m.programs, Own intEK (sv (vs.getD 4 (none, 0, 0))) m.next, Own eventEK (sv (vs.getD 5 (none, 0, 0))) m.events]
  K := Machine.K
  len := fun _ _ => rfl
  one := fun x vs u hu => by
    simp only [Machine.encv, List.mem_cons, List.not_mem_nil, or_false] at hu
    rcases hu with h | h | h | h | h | h | h | h | h | h | h | h | h | h | h | h | h <;> subst h <;> rfl
  rd := fun {x vs S w} h => ⟨_, _, _, _, _, _, rfl, own_rd (h.get (i := 0) rfl), own_rd (h.get (i := 1) rfl), own_rd (h.get (i := 2) rfl), own_rd (h.get (i := 3) rfl), own_rd (h.get (i := 4) rfl), own_rd (h.get (i := 5) rfl)⟩
  ext := fun hb ⟨v0, v1, v2, v3, v4, v5, h, h1, h2, h3, h4, h5, h6⟩ => ⟨v0, v1, v2, v3, v4, v5, h, h1.mov hb, h2.mov hb, h3.mov hb, h4.mov hb, h5.mov hb, h6.mov hb⟩
  klen := fun ⟨v0, v1, v2, v3, v4, v5, h, _⟩ => by rw [h]; rfl
instance : DecidableEq Machine := fun a b => decidable_of_iff (a.state = b.state ∧ a.programs = b.programs ∧ a.next = b.next ∧ a.events = b.events ∧ a.time = b.time) (by cases a; cases b; simp)
end Go.Proofs.YtifhfodphoeeoaaGreat.Sl
