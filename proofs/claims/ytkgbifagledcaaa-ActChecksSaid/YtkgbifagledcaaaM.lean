/-
  The plain model of footlocker's arena: words, memory, and what is done to it step by step, as Lean functions over whole numbers. No program in sight.
-/
import Derived.RowKit
namespace Go.Proofs.Ytkgbifagledcaaa.FL
open Go.RowKit

/-! ### layer 1: words -/
structure HandleW where
  slot : Int
  gen : Int
  deriving DecidableEq
structure SlotW where
  state : Int
  addr : Int
  gen : Int
  ver : Int
  deriving DecidableEq
structure ChunkW where
  state : Int
  cls : Int
  used : Int
  stamp : Int
  deriving DecidableEq
structure HeadW where
  kind : Int
  size : Int
  slot : Int
  gen : Int
  own : Bool
  deriving DecidableEq
structure CellW where
  value : Int
  frozen : Bool
  ver : Int
  deriving DecidableEq

def fit (n most : Int) : Int := if n < 0 then 0 else if most < n then most else n
def putHandle (h : HandleW) : Int := fit h.slot 65535 + fit h.gen 65535 * 65536
def handleOf (n : Int) : HandleW × Bool :=
  if n / 4294967296 = 0 ∧ n / 65536 ≠ 0 then (⟨n % 65536, n / 65536⟩, true) else (⟨0, 0⟩, false)
def putSlot (s : SlotW) : Int := fit s.state 7 + fit s.addr 1048575 * 8 + fit s.gen 65535 * 8388608 + fit s.ver 4194303 * 549755813888
def slotOf (w : Int) : SlotW := ⟨w % 8, w / 8 % 1048576, w / 8388608 % 65536, w / 549755813888 % 4194304⟩
def putChunk (c : ChunkW) : Int := fit c.state 3 + fit c.cls 63 * 4 + fit c.used 1048575 * 256 + fit c.stamp 68719476735 * 268435456
def chunkOf (w : Int) : ChunkW := ⟨w % 4, w / 4 % 64, w / 256 % 1048576, w / 268435456 % 68719476736⟩
def putHead (h : HeadW) : Int :=
  fit h.kind 3 + fit h.size 65535 * 4 + fit h.slot 65535 * 262144 + fit h.gen 65535 * 17179869184 + (if h.own then 1125899906842624 else 0)
def headOf (w : Int) : HeadW := ⟨w % 4, w / 4 % 65536, w / 262144 % 65536, w / 17179869184 % 65536, decide (w / 1125899906842624 % 2 = 1)⟩
def putCell (c : CellW) : Int :=
  fit c.value 1099511627775 + (if c.frozen then 9223372036854775808 + fit c.ver 4194303 * 1099511627776 else 0)
def cellOf (w : Int) : CellW :=
  if w / 9223372036854775808 = 1 then ⟨w % 1099511627776, true, w / 1099511627776 % 4194304⟩ else ⟨w % 1099511627776, false, 0⟩
def putTop (slot count : Int) : Int := fit (wrap64 ((if 65535 < slot then 65535 else slot) + 1)) 65536 + fit count 68719476735 * 131072
def topOf (w : Int) : Int × Int := (w % 131072 - 1, w / 131072 % 68719476736)

/-! ### layer 2: memory -/
structure Mem where
  w : List Int
  when : List Int
  steps : Int
  who : Int
  la : Int
  lw : Int
  lc : Bool
  deriving DecidableEq

def Mem.has (m : Mem) (a : Int) : Bool := decide (0 ≤ a) && decide (a < m.w.length)
def Mem.at (m : Mem) (a : Int) : Int := m.w.getD a.toNat 0
/-- A step that touches a word. -/
def Mem.tick (m : Mem) (who a : Int) : Mem := { m with steps := wrap64 (m.steps + 1), who := who, la := a, lw := who, lc := false }
/-- A word is laid, in a step. -/
def Mem.lay (m : Mem) (who a v : Int) : Mem :=
  { w := m.w.set a.toNat v
    when := if m.at a = v then m.when else m.when.set a.toNat (wrap64 (m.steps + 1))
    steps := wrap64 (m.steps + 1), who := who, la := a, lw := who, lc := decide (m.at a ≠ v) }
def Mem.by (m : Mem) (who : Int) : Mem := { m with who := who }
def Mem.load (m : Mem) (who a : Int) : Int × Mem := if m.has a then (m.at a, m.tick who a) else (0, m.by who)
def Mem.store (m : Mem) (who a v : Int) : Mem := if m.has a then m.lay who a v else m.by who
def Mem.cas (m : Mem) (who a old v : Int) : Bool × Mem :=
  if m.has a then (if m.at a = old then (true, m.lay who a v) else (false, m.tick who a)) else (false, m.by who)
def Mem.add (m : Mem) (who a d : Int) : Mem :=
  if m.has a then m.lay who a ((m.at a + d % 18446744073709551616) % 18446744073709551616) else m.by who
def Mem.peek (m : Mem) (a : Int) : Int := if m.has a then m.at a else 0
def Mem.whenAt (m : Mem) (a : Int) : Int := if m.has a then m.when.getD a.toNat 0 else 0

/-! ### layer 4: where all stands -/
structure Cfg where
  threads : Int
  slots : Int
  chunks : Int
  words : Int
  gens : Int
  sparse : Int
  tries : Int
  deriving DecidableEq
structure Env where
  c : Cfg
  who : Int
  deriving DecidableEq

def Cfg.slotA (c : Cfg) (i : Int) : Int := wrap64 (wrap64 (6 + c.threads) + wrap64 (2 * i))
def Cfg.chunkA (c : Cfg) (i : Int) : Int := wrap64 (wrap64 (wrap64 (6 + c.threads) + wrap64 (2 * c.slots)) + wrap64 (3 * i))
def Cfg.baseA (c : Cfg) (i : Int) : Int :=
  wrap64 (wrap64 (wrap64 (wrap64 (6 + c.threads) + wrap64 (2 * c.slots)) + wrap64 (3 * c.chunks)) + wrap64 (c.words * i))
def Cfg.len (c : Cfg) : Int := c.baseA c.chunks
def Cfg.of (c : Cfg) (addr : Int) : Int :=
  if addr < c.baseA 0 ∨ c.len ≤ addr then -1 else wrap64 ((wrap64 (addr - c.baseA 0)).tdiv c.words)
def openA (cls : Int) : Int := wrap64 (2 + cls)
def pinA (t : Int) : Int := wrap64 (6 + t)
def classOf (size : Int) : Int :=
  if 1 ≤ size then (if size ≤ 2 then 0 else if size ≤ 4 then 1 else if size ≤ 8 then 2 else if size ≤ 16 then 3 else -1) else -1
/-- How many words an object of a class takes (of the classes that there are; Go's own shift beyond). -/
def room (cls : Int) : Int := wrap64 (1 + wrap64 (2 * 2 ^ min cls.toNat 64))
def inc (a : Int) : Int := wrap64 (a + 1)

/-! ### what acts come to -/
structure Done where
  e : Int
  handle : Int
  value : Int
  stamp : Int
  deriving DecidableEq
structure Spot where
  addr : Int
  chunk : Int
  deriving DecidableEq
structure Want where
  kind : Int
  handle : Int
  index : Int
  value : Int
  old : Int
  deriving DecidableEq

/-! ### layer 6: slots -/
structure Take where
  pc : Int
  top : Int
  next : Int
  slot : Int
  ok : Bool
  deriving DecidableEq
def Take.new : Take := ⟨0, 0, 0, 0, false⟩
def Take.step (t : Take) (e : Env) (m : Mem) : Take × Mem × Bool :=
  if t.pc = 0 then
    let r := m.load e.who 1
    let s := (topOf r.1).1
    ({ t with pc := 1, top := r.1, slot := s }, r.2, decide (s < 0))
  else if t.pc = 1 then
    let r := m.load e.who (inc (e.c.slotA t.slot))
    ({ t with pc := 2, next := (topOf r.1).1 }, r.2, t.ok)
  else
    let r := m.cas e.who 1 t.top (putTop t.next (inc (topOf t.top).2))
    ({ t with pc := 0, ok := r.1 }, r.2, r.1)
def Take.got (t : Take) : Int × Bool := if t.ok then (t.slot, true) else (0, false)

structure Give where
  pc : Int
  slot : Int
  top : Int
  deriving DecidableEq
def Give.new (slot : Int) : Give := ⟨0, slot, 0⟩
def Give.step (g : Give) (e : Env) (m : Mem) : Give × Mem × Bool :=
  if g.pc = 0 then
    let r := m.load e.who 1
    ({ g with pc := 1, top := r.1 }, r.2, false)
  else if g.pc = 1 then
    ({ g with pc := 2 }, m.store e.who (inc (e.c.slotA g.slot)) (putTop (topOf g.top).1 0), false)
  else
    let r := m.cas e.who 1 g.top (putTop g.slot (inc (topOf g.top).2))
    ({ g with pc := 0 }, r.2, r.1)

/-! ### layer 7: places -/
structure Place where
  cls : Int
  pc : Int
  opn : Int
  at_ : Int
  w : Int
  spot : Spot
  ok : Bool
  deriving DecidableEq
def Place.new (cls : Int) : Place := ⟨cls, 0, 0, 0, 0, ⟨0, 0⟩, false⟩
def Place.got (p : Place) : Spot × Bool := if p.ok then (p.spot, true) else (⟨0, 0⟩, false)
def Place.fresh (p : Place) : Int := putChunk ⟨1, p.cls, 0, inc (chunkOf p.w).stamp⟩
def Place.on (p : Place) (e : Env) : Place × Bool :=
  ({ p with at_ := inc p.at_, pc := 3 }, decide (e.c.chunks ≤ inc p.at_))
def Place.get (p : Place) (e : Env) (m : Mem) : Place × Mem × Bool :=
  let c := chunkOf p.w
  let r := m.cas e.who (e.c.chunkA p.at_) p.w (putChunk { c with used := wrap64 (c.used + room p.cls) })
  if r.1 then ({ p with pc := 0, spot := ⟨wrap64 (e.c.baseA p.at_ + c.used), p.at_⟩, ok := true }, r.2, true)
  else ({ p with pc := 0 }, r.2, false)
def Place.step (p : Place) (e : Env) (m : Mem) : Place × Mem × Bool :=
  if p.pc = 0 then
    let r := m.load e.who (openA p.cls)
    let a := wrap64 (wrap64 r.1 - 1)
    if a < 0 then ({ p with opn := r.1, at_ := 0, pc := 3 }, r.2, false) else ({ p with opn := r.1, at_ := a, pc := 1 }, r.2, false)
  else if p.pc = 1 then
    let r := m.load e.who (e.c.chunkA p.at_)
    let c := chunkOf r.1
    if c.state ≠ 1 ∨ c.cls ≠ p.cls ∨ e.c.words < wrap64 (c.used + room p.cls) then ({ p with w := r.1, at_ := 0, pc := 3 }, r.2, false)
    else ({ p with w := r.1, pc := 2 }, r.2, false)
  else if p.pc = 2 then p.get e m
  else if p.pc = 3 then
    let r := m.load e.who (e.c.chunkA p.at_)
    let p := { p with w := r.1 }
    if (chunkOf r.1).state ≠ 0 then ((p.on e).1, r.2, (p.on e).2) else ({ p with pc := 4 }, r.2, false)
  else if p.pc = 4 then
    let r := m.cas e.who (e.c.chunkA p.at_) p.w p.fresh
    if r.1 then ({ p with pc := 5 }, r.2, false) else ((p.on e).1, r.2, (p.on e).2)
  else if p.pc = 5 then
    let r := m.cas e.who (openA p.cls) p.opn (inc p.at_ % 18446744073709551616)
    if r.1 then ({ p with pc := 0 }, r.2, false) else ({ p with pc := 6 }, r.2, false)
  else
    let r := m.cas e.who (e.c.chunkA p.at_) p.fresh (putChunk ⟨0, 0, 0, wrap64 ((chunkOf p.w).stamp + 2)⟩)
    ({ p with pc := 0 }, r.2, false)

/-! ### layer 8: alloc -/
structure Alloc where
  size : Int
  own : Bool
  pc : Int
  take : Take
  at_ : Int
  gen : Int
  p : Option Place
  spot : Spot
  give : Option Give
  out : Done
  deriving DecidableEq
def Alloc.new (size : Int) (own : Bool) : Alloc := ⟨size, own, 0, Take.new, 0, 0, none, ⟨0, 0⟩, none, ⟨0, 0, 0, 0⟩⟩
def Alloc.head (a : Alloc) (kind : Int) : Int := putHead ⟨kind, a.size, a.at_, a.gen, a.own⟩
def Alloc.endBy (a : Alloc) (x : Int) (m : Mem) : Alloc := { a with out := ⟨x, 0, 0, m.steps⟩ }
def Alloc.step (a : Alloc) (e : Env) (m : Mem) : Alloc × Mem × Bool :=
  if a.pc = 0 then
    if classOf a.size < 0 then (a.endBy 5 m, m, true)
    else
      let r := a.take.step e m
      let a := { a with take := r.1 }
      if r.2.2 then
        let a := { a with at_ := r.1.got.1, pc := 1 }
        if r.1.got.2 then (a, r.2.1, false) else (a.endBy 7 r.2.1, r.2.1, true)
      else (a, r.2.1, false)
  else if a.pc = 1 then
    let r := m.load e.who (e.c.slotA a.at_)
    ({ a with gen := (slotOf r.1).gen, pc := 2, p := some (Place.new (classOf a.size)) }, r.2, false)
  else if a.pc = 2 then
    match a.p with
    | none => (a, m, false)
    | some p =>
      let r := p.step e m
      let a := { a with p := some r.1 }
      if r.2.2 then
        let a := { a with spot := r.1.got.1, pc := 3 }
        if r.1.got.2 then (a, r.2.1, false)
        else ({ a.endBy 6 r.2.1 with give := some (Give.new a.at_), pc := 7 }, r.2.1, false)
      else (a, r.2.1, false)
  else if a.pc = 3 then
    ({ a with pc := 4 }, m.add e.who (inc (e.c.chunkA a.spot.chunk)) (room (classOf a.size)), false)
  else if a.pc = 4 then
    ({ a with pc := 5 }, m.store e.who a.spot.addr (a.head 1), false)
  else if a.pc = 5 then
    let m := m.store e.who (e.c.slotA a.at_) (putSlot ⟨1, a.spot.addr, a.gen, 0⟩)
    ({ a with out := ⟨0, putHandle ⟨a.at_, a.gen⟩, 0, m.steps⟩, pc := 6 }, m, false)
  else if a.pc = 6 then
    (a, m.store e.who a.spot.addr (a.head 2), true)
  else
    match a.give with
    | none => (a, m, false)
    | some g =>
      let r := g.step e m
      ({ a with give := some r.1 }, r.2.1, r.2.2)

/-! ### layer 9: drop -/
def live (s : SlotW) (h : HandleW) : Bool := (decide (s.state = 1) || decide (s.state = 2) || decide (s.state = 4)) && decide (s.gen = h.gen)
structure Help where
  slot : Int
  w : Int
  size : Int
  i : Int
  cell : Int
  read : Bool
  won : Bool
  deriving DecidableEq
def Help.new (slot w size : Int) : Help := ⟨slot, w, size, 0, 0, false, false⟩
def Help.step (h : Help) (e : Env) (m : Mem) : Help × Mem × Bool :=
  let s := slotOf h.w
  let at_ := wrap64 (wrap64 (s.addr + 1) + h.i)
  if h.size ≤ h.i then
    let next : SlotW := if e.c.gens ≤ s.gen then ⟨3, 0, s.gen, 0⟩ else ⟨0, 0, wrap64 (s.gen + 1), 0⟩
    let r := m.cas e.who (e.c.slotA h.slot) h.w (putSlot next)
    ({ h with won := r.1 }, r.2, true)
  else if h.read = false then
    let r := m.load e.who at_
    let c := cellOf r.1
    if c.frozen && decide (c.ver = s.ver) then ({ h with cell := r.1, read := false, i := inc h.i }, r.2, false)
    else ({ h with cell := r.1, read := true }, r.2, false)
  else
    let r := m.cas e.who at_ h.cell (putCell ⟨(cellOf h.cell).value, true, s.ver⟩)
    if r.1 then ({ h with read := false, i := inc h.i }, r.2, false) else ({ h with read := false }, r.2, false)

structure Drop where
  n : Int
  own : Bool
  h : HandleW
  pc : Int
  w : Int
  size : Int
  help : Option Help
  give : Option Give
  out : Done
  deriving DecidableEq
def Drop.new (n : Int) (own : Bool) : Drop := ⟨n, own, ⟨0, 0⟩, 0, 0, 0, none, none, ⟨0, 0, 0, 0⟩⟩
def Drop.invalid (d : Drop) (m : Mem) : Drop := { d with out := ⟨3, 0, 0, m.steps⟩ }
def Drop.see (d : Drop) (e : Env) (m : Mem) : Drop × Mem × Bool :=
  let h := handleOf d.n
  let d := { d with h := h.1 }
  if h.2 = false ∨ e.c.slots ≤ h.1.slot then (d.invalid m, m, true)
  else
    let r := m.load e.who (e.c.slotA h.1.slot)
    let d := { d with w := r.1 }
    if live (slotOf r.1) h.1 then ({ d with pc := 1 }, r.2, false) else (d.invalid r.2, r.2, true)
def Drop.claim (d : Drop) (e : Env) (m : Mem) : Drop × Mem :=
  let s := slotOf d.w
  let w := putSlot { s with state := 4, ver := wrap64 (s.ver + 1) }
  let r := m.cas e.who (e.c.slotA d.h.slot) d.w w
  if r.1 then ({ d with pc := 3, help := some (Help.new d.h.slot w d.size) }, r.2) else ({ d with pc := 0 }, r.2)
def Drop.step (d : Drop) (e : Env) (m : Mem) : Drop × Mem × Bool :=
  let at_ := e.c.slotA d.h.slot
  if d.pc = 0 then d.see e m
  else if d.pc = 1 then
    let r := m.load e.who (slotOf d.w).addr
    let x := headOf r.1
    if x.own ≠ d.own then (d.invalid r.2, r.2, true)
    else if (slotOf d.w).state = 4 then ({ d with size := x.size, pc := 4, help := some (Help.new d.h.slot d.w x.size) }, r.2, false)
    else ({ d with size := x.size, pc := 2 }, r.2, false)
  else if d.pc = 2 then ((d.claim e m).1, (d.claim e m).2, false)
  else if d.pc = 3 then
    match d.help with
    | none => (d, m, false)
    | some h =>
      let r := h.step e m
      if r.2.2 then ({ d with help := some r.1, out := ⟨0, 0, 0, r.2.1.whenAt at_⟩, pc := 5 }, r.2.1, false)
      else ({ d with help := some r.1 }, r.2.1, false)
  else if d.pc = 4 then
    match d.help with
    | none => (d, m, false)
    | some h =>
      let r := h.step e m
      if r.2.2 then ({ d with help := some r.1, pc := 0 }, r.2.1, false) else ({ d with help := some r.1 }, r.2.1, false)
  else if d.pc = 5 then
    let chunk := e.c.of (slotOf d.w).addr
    ({ d with give := some (Give.new d.h.slot), pc := 6 }, m.add e.who (inc (e.c.chunkA chunk)) (wrap64 (- room (classOf d.size))), decide (e.c.gens ≤ d.h.gen))
  else
    match d.give with
    | none => (d, m, false)
    | some g =>
      let r := g.step e m
      ({ d with give := some r.1 }, r.2.1, r.2.2)

/-! ### layer 10: access -/
structure Access where
  x : Want
  own : Bool
  h : HandleW
  pc : Int
  w : Int
  cell : Int
  seen : Int
  read : Int
  size : Int
  help : Option Help
  out : Done
  deriving DecidableEq
def Access.new (x : Want) (own : Bool) : Access := ⟨x, own, ⟨0, 0⟩, 0, 0, 0, 0, 0, 0, none, ⟨0, 0, 0, 0⟩⟩
def Access.endBy (a : Access) (e value stamp : Int) : Access := { a with out := ⟨e, 0, value, stamp⟩ }
def Access.at (a : Access) : Int := wrap64 (wrap64 ((slotOf a.w).addr + 1) + a.x.index)
def Access.next (a : Access) : Int :=
  let c := cellOf a.cell
  let s := slotOf a.w
  if a.x.kind = 1 ∨ (a.x.kind = 3 ∧ c.value ≠ a.x.old) then 6
  else if s.state = 4 then 4
  else if c.frozen = false ∨ c.ver < s.ver then 5
  else if c.ver = s.ver ∧ s.state = 2 then 3
  else 0
def Access.check (a : Access) (e : Env) (m : Mem) : Access × Mem × Bool :=
  let r := m.load e.who (e.c.slotA a.h.slot)
  let s := slotOf r.1
  let value := (cellOf a.cell).value
  if live s a.h = false then (a.endBy 3 0 r.2.steps, r.2, true)
  else if s.addr ≠ (slotOf a.w).addr then ({ a with pc := 0 }, r.2, false)
  else if a.x.kind = 3 then (a.endBy 8 value a.read, r.2, true)
  else (a.endBy 0 value a.read, r.2, true)
def Access.step (a : Access) (e : Env) (m : Mem) : Access × Mem × Bool :=
  if a.pc = 0 then
    let h := handleOf a.x.handle
    let a := { a with h := h.1 }
    if h.2 = false ∨ e.c.slots ≤ h.1.slot then (a.endBy 3 0 m.steps, m, true)
    else
      let r := m.load e.who (e.c.slotA h.1.slot)
      let a := { a with w := r.1, seen := r.2.steps, pc := 1 }
      if live (slotOf r.1) h.1 then (a, r.2, false) else (a.endBy 3 0 r.2.steps, r.2, true)
  else if a.pc = 1 then
    let r := m.load e.who (slotOf a.w).addr
    let x := headOf r.1
    let a := { a with size := x.size, pc := 2 }
    if x.own ≠ a.own then (a.endBy 3 0 r.2.steps, r.2, true)
    else if a.x.index < 0 ∨ x.size ≤ a.x.index then (a.endBy 4 0 a.seen, r.2, true)
    else (a, r.2, false)
  else if a.pc = 2 then
    let r := m.load e.who a.at
    let a := { a with cell := r.1, read := r.2.steps }
    let a := { a with pc := a.next }
    if a.pc = 4 then ({ a with help := some (Help.new a.h.slot a.w a.size) }, r.2, false) else (a, r.2, false)
  else if a.pc = 3 then
    let s := slotOf a.w
    let r := m.cas e.who (e.c.slotA a.h.slot) a.w (putSlot { s with state := 1, ver := wrap64 (s.ver + 1) })
    ({ a with pc := 0 }, r.2, false)
  else if a.pc = 4 then
    match a.help with
    | none => (a, m, false)
    | some h =>
      let r := h.step e m
      if r.2.2 then ({ a with help := some r.1, pc := 0 }, r.2.1, false) else ({ a with help := some r.1 }, r.2.1, false)
  else if a.pc = 5 then
    let r := m.cas e.who a.at a.cell (putCell ⟨a.x.value, false, 0⟩)
    let a := { a with pc := 0 }
    if r.1 then (a.endBy 0 (cellOf a.cell).value r.2.steps, r.2, true) else (a, r.2, false)
  else a.check e m

end Go.Proofs.Ytkgbifagledcaaa.FL
