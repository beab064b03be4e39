/-
  The plain model of footlocker's arena, continued: pins, acts, runs of one thread alone, the arena at its beginning.
-/
import Derived.Test.YtkgbifagledcaaaM
namespace Go.Proofs.Ytkgbifagledcaaa.FL
open Go.RowKit

/-! ### the arena at its beginning -/
def Mem.new (n : Nat) : Mem := ⟨List.replicate n 0, List.replicate n 0, 0, 0, 0, 0, false⟩
def Cfg.check (c : Cfg) : Bool :=
  (decide (1 ≤ c.threads) && decide (c.threads ≤ 8) && decide (1 ≤ c.slots) && decide (c.slots ≤ 65536)) &&
  (decide (1 ≤ c.chunks) && decide (c.chunks ≤ 64) && decide (17 ≤ c.words) && decide (c.words ≤ 256)) &&
  (decide (1 ≤ c.gens) && decide (c.gens ≤ 65535) && decide (0 ≤ c.sparse) && decide (c.sparse ≤ 1000) && decide (1 ≤ c.tries) && decide (c.tries ≤ 16))
/-- What the first k slots are laid as. -/
def freshSlots (c : Cfg) : Nat → Mem → Mem
  | 0, m => m
  | k + 1, m =>
    let m := freshSlots c k m
    let m := m.store m.who (c.slotA k) (putSlot ⟨0, 0, 1, 0⟩)
    m.store m.who (inc (c.slotA k)) (putTop (inc k) 0)
def Cfg.fresh (c : Cfg) : Mem :=
  let m := freshSlots c c.slots.toNat (Mem.new c.len.toNat)
  let m := m.store m.who (inc (c.slotA (wrap64 (c.slots - 1)))) (putTop (-1) 0)
  m.store m.who 1 (putTop 0 0)
def arenaCfg (t s k w : Int) : Cfg := ⟨t, s, k, w, 100, 600, 3⟩
def arenaEnv (t s k w : Int) : Env := ⟨arenaCfg t s k w, 0⟩

/-! ### one thread alone -/
def Alloc.run (e : Env) : Nat → Alloc → Mem → Alloc × Mem
  | 0, a, m => (a, m)
  | n + 1, a, m => let r := a.step e m; if r.2.2 then (r.1, r.2.1) else Alloc.run e n r.1 r.2.1
def Drop.run (e : Env) : Nat → Drop → Mem → Drop × Mem
  | 0, a, m => (a, m)
  | n + 1, a, m => let r := a.step e m; if r.2.2 then (r.1, r.2.1) else Drop.run e n r.1 r.2.1
def Access.run (e : Env) : Nat → Access → Mem → Access × Mem
  | 0, a, m => (a, m)
  | n + 1, a, m => let r := a.step e m; if r.2.2 then (r.1, r.2.1) else Access.run e n r.1 r.2.1
def make (e : Env) (m : Mem) (size : Int) (own : Bool) : Done × Mem := let r := Alloc.run e 400 (Alloc.new size own) m; (r.1.out, r.2)
def letGo (e : Env) (m : Mem) (h : Int) (own : Bool) : Done × Mem := let r := Drop.run e 200 (Drop.new h own) m; (r.1.out, r.2)
def doIt (e : Env) (m : Mem) (x : Want) (own : Bool) : Done × Mem := let r := Access.run e 200 (Access.new x own) m; (r.1.out, r.2)

/-! ### layer 5: pins -/
structure PinIn where
  pc : Int
  epoch : Int
  deriving DecidableEq
def PinIn.step (p : PinIn) (e : Env) (m : Mem) : PinIn × Mem × Bool :=
  if p.pc = 0 then
    let r := m.load e.who 0
    (⟨1, r.1⟩, r.2, false)
  else if p.pc = 1 then (⟨2, p.epoch⟩, m.store e.who (pinA e.who) ((p.epoch + 1) % 18446744073709551616), false)
  else
    let r := m.load e.who 0
    if r.1 = p.epoch then (p, r.2, true) else (⟨1, r.1⟩, r.2, false)
def pinOut (e : Env) (m : Mem) : Mem := m.store e.who (pinA e.who) 0

/-! ### layer 15: acts -/
structure ActX where
  kind : Int
  size : Int
  handle : Int
  index : Int
  value : Int
  old : Int
  own : Bool
  deriving DecidableEq
inductive Doer where
  | alloc (a : Alloc)
  | drop (d : Drop)
  | access (a : Access)
  deriving DecidableEq
def Doer.step (d : Doer) (e : Env) (m : Mem) : Doer × Mem × Bool :=
  match d with
  | .alloc a => let r := a.step e m; (.alloc r.1, r.2.1, r.2.2)
  | .drop a => let r := a.step e m; (.drop r.1, r.2.1, r.2.2)
  | .access a => let r := a.step e m; (.access r.1, r.2.1, r.2.2)
def Doer.out : Doer → Done
  | .alloc a => a.out
  | .drop a => a.out
  | .access a => a.out
structure Act where
  pin : PinIn
  pc : Int
  work : Doer
  out : Done
  deriving DecidableEq
def ActX.check (x : ActX) : Bool :=
  (decide (1 ≤ x.kind) && decide (x.kind ≤ 5)) && (decide (0 ≤ x.value) && decide (x.value ≤ 1099511627775) && decide (0 ≤ x.old) && decide (x.old ≤ 1099511627775))
def ActX.doer (x : ActX) : Doer :=
  if x.kind = 1 then .alloc (Alloc.new x.size x.own)
  else if x.kind = 2 then .drop (Drop.new x.handle x.own)
  else .access (Access.new ⟨wrap64 (wrap64 (x.kind - 3) + 1), x.handle, x.index, x.value, x.old⟩ x.own)
def Act.new (x : ActX) : Act := ⟨⟨0, 0⟩, 0, x.doer, ⟨0, 0, 0, 0⟩⟩
def Act.step (a : Act) (e : Env) (m : Mem) : Act × Mem × Bool :=
  if a.pc = 0 then
    let r := a.pin.step e m
    if r.2.2 then ({ a with pin := r.1, pc := 1 }, r.2.1, false) else ({ a with pin := r.1 }, r.2.1, false)
  else if a.pc = 1 then
    let r := a.work.step e m
    if r.2.2 then ({ a with work := r.1, out := r.1.out, pc := 2 }, r.2.1, false) else ({ a with work := r.1 }, r.2.1, false)
  else (a, pinOut e m, true)
def Act.run (e : Env) : Nat → Act → Mem → Act × Mem
  | 0, a, m => (a, m)
  | n + 1, a, m => let r := a.step e m; if r.2.2 then (r.1, r.2.1) else Act.run e n r.1 r.2.1
def doAct (e : Env) (m : Mem) (x : ActX) : Done × Mem :=
  if x.check then let r := Act.run e 500 (Act.new x) m; (r.1.out, r.2) else (⟨1, 0, 0, 0⟩, m)

/-! ### closed checks -/
def awake10 : Bool :=
  let e := arenaEnv 1 4 2 20
  let m := e.c.fresh
  let d := make e m 2 false
  let a := doIt e d.2 ⟨2, d.1.handle, 1, 5, 0⟩ false
  let b := doIt e a.2 ⟨1, d.1.handle, 1, 0, 0⟩ false
  decide (a.1.e = 0) && decide (b.1.e = 0) && decide (b.1.value = 5) && decide (a.1.stamp < b.1.stamp)
def awake15 : Bool :=
  let e := arenaEnv 1 4 2 20
  let m := e.c.fresh
  let d := doAct e m ⟨1, 2, 0, 0, 0, 0, false⟩
  let a := doAct e d.2 ⟨4, 0, d.1.handle, 0, 7, 0, false⟩
  let b := doAct e a.2 ⟨3, 0, d.1.handle, 0, 0, 0, false⟩
  decide (d.1.handle = 65536) && decide (a.1.e = 0) && decide (b.1.e = 0) && decide (b.1.value = 7) && decide (b.2.peek 6 = 0)

end Go.Proofs.Ytkgbifagledcaaa.FL
