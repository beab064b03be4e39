/-
  How the model's memory lies in Go's heap: a struct's block written out cell by cell; what of the heap stays when some blocks are written.
-/
import Derived.Test.YtkgbifagledcaaaM
import Derived.WalkKit
import Derived.KernelRfl
import Derived.Deep.QuietTactic
namespace Go.Proofs.Ytkgbifagledcaaa.FL
open Go Go.RowKit

/-- But for the old blocks of S nothing that was there has turned. -/
structure Fr (S : List Nat) (w w' : World) : Prop where
  os : w'.os = w.os
  tape : w'.tape = w.tape
  output : w'.output = w.output
  size : w.heap.size ≤ w'.heap.size
  block : ∀ k, k < w.heap.size → k ∉ S → w'.heap[k]? = w.heap[k]?

theorem Fr.refl (S : List Nat) (w : World) : Fr S w w := ⟨rfl, rfl, rfl, Nat.le_refl _, fun _ _ _ => rfl⟩
theorem Fr.trans {S : List Nat} {a b c : World} (h : Fr S a b) (k : Fr S b c) : Fr S a c :=
  ⟨k.os.trans h.os, k.tape.trans h.tape, k.output.trans h.output, Nat.le_trans h.size k.size,
    fun i hi hs => (k.block i (Nat.lt_of_lt_of_le hi h.size) hs).trans (h.block i hi hs)⟩
theorem Fr.mono {S S' : List Nat} {w w' : World} (h : Fr S w w') (hs : ∀ k, k < w.heap.size → k ∈ S → k ∈ S') : Fr S' w w' :=
  ⟨h.os, h.tape, h.output, h.size, fun k hk hn => h.block k hk (fun hm => hn (hs k hk hm))⟩
/-- The blocks of T are new, or of S. -/
theorem Fr.trans' {S T : List Nat} {a b c : World} (h : Fr S a b) (k : Fr T b c) (ht : ∀ x, x ∈ T → x < a.heap.size → x ∈ S) : Fr S a c :=
  ⟨k.os.trans h.os, k.tape.trans h.tape, k.output.trans h.output, Nat.le_trans h.size k.size,
    fun i hi hs => (k.block i (Nat.lt_of_lt_of_le hi h.size) (fun hm => hs (ht i hm hi))).trans (h.block i hi hs)⟩
theorem Fr.nil {S : List Nat} {a b c : World} (h : Fr S a b) (k : Fr [] b c) : Fr S a c := h.trans' k (fun x hx _ => absurd hx (by simp))
theorem Fr.sub {S T : List Nat} {a b c : World} (h : Fr S a b) (k : Fr T b c) (ht : ∀ x, x ∈ T → x ∈ S) : Fr S a c := h.trans' k (fun x hx _ => ht x hx)
theorem Fr.alloc {S : List Nat} {a w : World} (h : Fr S a w) (o : Obj) : Fr S a (w.alloc o) :=
  h.trans ⟨rfl, rfl, rfl, by simp, fun k hk _ => Below.heap_alloc _ _ _ hk⟩
theorem Fr.drew {S : List Nat} {a w : World} (h : Fr S a w) : Fr S a w.drew := ⟨h.os, h.tape, h.output, h.size, h.block⟩
theorem Fr.drewN {S : List Nat} {a w : World} (h : Fr S a w) (n : Nat) : Fr S a (w.drewN n) := ⟨h.os, h.tape, h.output, h.size, h.block⟩
theorem Fr.setCell {S : List Nat} {a w : World} (h : Fr S a w) {p : Addr} (hp : p.block ∈ S ∨ a.heap.size ≤ p.block) (u : Value) : Fr S a (w.setCell p u) := by
  refine ⟨h.os, h.tape, h.output, by simp [World.setCell]; exact h.size, fun k hk hs => ?_⟩
  rw [Below.heap_setCell _ _ _ _ (by rintro rfl; rcases hp with hp | hp; exact hs hp; omega)]
  exact h.block k hk hs
theorem Fr.below {S : List Nat} {B : Nat} {w w' : World} (h : Fr S w w') (hB : B ≤ w.heap.size) (hS : ∀ k ∈ S, B ≤ k) : Below B w w' :=
  ⟨h.os, h.tape, h.output, h.size, fun k hk => h.block k (by omega) (fun hm => by have := hS k hm; omega)⟩
theorem Fr.ofBelow {w w' : World} (h : Below w.heap.size w w') (S : List Nat) : Fr S w w' :=
  ⟨h.os, h.tape, h.output, h.size, fun k hk _ => h.block k hk⟩

/-- Block b holds the cells vs. -/
def At (w : World) (b : Nat) (t : TypeId) (vs : Array Value) : Prop := w.heap[b]? = some (.cells vs t (0, 0))
theorem At.cell {w : World} {b : Nat} {t : TypeId} {vs : Array Value} (h : At w b t vs) (i : Nat) : w.cell? ⟨b, i, none⟩ = vs[i]? := by
  unfold At at h; simp [World.cell?, h]
theorem At.frozen {w : World} {b : Nat} {t : TypeId} {vs : Array Value} (h : At w b t vs) (i : Nat) : w.frozen? ⟨b, i, none⟩ = false := by
  unfold At at h; simp [World.frozen?, h]
theorem At.lt {w : World} {b : Nat} {t : TypeId} {vs : Array Value} (h : At w b t vs) : b < w.heap.size := by
  unfold At at h
  rcases Nat.lt_or_ge b w.heap.size with h' | h'
  · exact h'
  · simp [Array.getElem?_eq_none h'] at h
theorem At.fr {w w' : World} {S : List Nat} {b : Nat} {t : TypeId} {vs : Array Value} (h : At w b t vs) (f : Fr S w w') (hs : b ∉ S) : At w' b t vs :=
  (f.block b h.lt hs).trans h
theorem At.alloc {w : World} {b : Nat} {t : TypeId} {vs : Array Value} (h : At w b t vs) (o : Obj) : At (w.alloc o) b t vs :=
  (Below.heap_alloc w o b h.lt).trans h
theorem At.drew {w : World} {b : Nat} {t : TypeId} {vs : Array Value} (h : At w b t vs) : At w.drew b t vs := h
theorem At.drewN {w : World} {b : Nat} {t : TypeId} {vs : Array Value} (h : At w b t vs) (n : Nat) : At (w.drewN n) b t vs := h
theorem At.new (w : World) (t : TypeId) (vs : Array Value) : At (w.alloc (.cells vs t)) w.heap.size t vs := by
  show (w.heap.push _)[w.heap.size]? = _
  simp
theorem At.newAt {w : World} {b : Nat} {t : TypeId} {vs : Array Value} (h : b = w.heap.size) : At (w.alloc (.cells vs t)) b t vs := h ▸ At.new w t vs
theorem At.set {w : World} {b : Nat} {t : TypeId} {vs : Array Value} (h : At w b t vs) (i : Nat) (v : Value) : At (w.setCell ⟨b, i, none⟩ v) b t (vs.setIfInBounds i v) := by
  unfold At at *
  simp [World.setCell, Array.getElem?_modify, h]
theorem At.setOther {w : World} {b : Nat} {t : TypeId} {vs : Array Value} (h : At w b t vs) {p : Addr} (hp : b ≠ p.block) (v : Value) : At (w.setCell p v) b t vs :=
  (Below.heap_setCell w p v b hp).trans h
theorem At.to {w : World} {b : Nat} {t : TypeId} {vs vs' : Array Value} (h : At w b t vs) (e : vs = vs') : At w b t vs' := e ▸ h
theorem At.cells {w : World} {b : Nat} {t : TypeId} {vs vs' : Array Value} (h : At w b t vs) (e : vs = vs') (i : Nat) : w.cell? ⟨b, i, none⟩ = vs'[i]? := e ▸ h.cell i
theorem At.frozenOf {w w' : World} {b : Nat} {t : TypeId} {vs : Array Value} (h : At w' b t vs) (f : ∀ i, w.frozen? ⟨b, i, none⟩ = w'.frozen? ⟨b, i, none⟩) (i : Nat) : w.frozen? ⟨b, i, none⟩ = false := (f i).trans (h.frozen i)

/-- The cells a in the place of those of vs from o on. -/
def splice (vs : Array Value) (o : Nat) (a : Array Value) : Array Value := (vs.toList.take o ++ a.toList ++ vs.toList.drop (o + a.size)).toArray
theorem splice_get {vs : Array Value} {o : Nat} {a : Array Value} (h : o + a.size ≤ vs.size) (i : Nat) (hi : i < a.size) : (splice vs o a)[o + i]? = a[i]? := by
  unfold splice
  have hl : (vs.toList.take o).length = o := by simp; omega
  rw [List.getElem?_toArray, List.append_assoc, List.getElem?_append_right (by omega), hl, List.getElem?_append_left (by simp; omega)]
  simp
theorem splice_set {vs : Array Value} {o : Nat} {a : Array Value} (h : o + a.size ≤ vs.size) (i : Nat) (hi : i < a.size) (v : Value) :
    (splice vs o a).setIfInBounds (o + i) v = splice vs o (a.setIfInBounds i v) := by
  unfold splice
  have hl : (vs.toList.take o).length = o := by simp; omega
  rw [List.setIfInBounds_toArray, List.append_assoc, List.set_append_right _ _ (by omega), hl, List.set_append_left _ _ (by simp; omega)]
  simp
theorem At.cellSub {w : World} {b : Nat} {t : TypeId} {vs a : Array Value} {o : Nat} (h : At w b t (splice vs o a)) (ho : o + a.size ≤ vs.size) (i : Nat) (hi : i < a.size) : w.cell? ⟨b, o + i, none⟩ = a[i]? :=
  (h.cell _).trans (splice_get ho i hi)
theorem At.setSub {w : World} {b : Nat} {t : TypeId} {vs a : Array Value} {o : Nat} (h : At w b t (splice vs o a)) (ho : o + a.size ≤ vs.size) (i : Nat) (hi : i < a.size) (v : Value) :
    At (w.setCell ⟨b, o + i, none⟩ v) b t (splice vs o (a.setIfInBounds i v)) := splice_set ho i hi v ▸ h.set (o + i) v

theorem At.setSub0 {w : World} {b : Nat} {t : TypeId} {vs a : Array Value} {o : Nat} (h : At w b t (splice vs o a)) (ho : o + a.size ≤ vs.size) (hi : 0 < a.size) (v : Value) :
    At (w.setCell ⟨b, o, none⟩ v) b t (splice vs o (a.setIfInBounds 0 v)) := h.setSub ho 0 hi v
theorem At.toSub {w : World} {b : Nat} {t : TypeId} {vs a a' : Array Value} {o : Nat} (h : At w b t (splice vs o a)) (e : a = a') : At w b t (splice vs o a') := e ▸ h

/-! ### the arena's memory in the heap -/
structure Loc where
  m : Nat
  w : Nat
  n : Nat
def Loc.list (l : Loc) : List Nat := [l.m, l.w, l.n]
def Mem.cells (m : Mem) (l : Loc) : Array Value :=
  #[.slice (some ⟨l.w, 0, none⟩) m.w.length m.w.length, .slice (some ⟨l.n, 0, none⟩) m.w.length m.w.length, .int .i64 m.steps, .int .i64 m.who, .int .i64 m.la, .int .i64 m.lw, .bool m.lc]
structure MemAt (w : World) (l : Loc) (m : Mem) : Prop where
  hd : At w l.m 110 (m.cells l)
  aw : At w l.w 23 (m.w.map (Value.int .u64)).toArray
  an : At w l.n 3 (m.when.map (Value.int .i64)).toArray
  ne1 : l.m ≠ l.w
  ne2 : l.m ≠ l.n
  ne3 : l.w ≠ l.n
  len : m.when.length = m.w.length
  small : m.w.length ≤ 1048576

theorem MemAt.fr {w w' : World} {S : List Nat} {l : Loc} {m : Mem} (h : MemAt w l m) (f : Fr S w w') (h1 : l.m ∉ S) (h2 : l.w ∉ S) (h3 : l.n ∉ S) : MemAt w' l m :=
  ⟨h.hd.fr f h1, h.aw.fr f h2, h.an.fr f h3, h.ne1, h.ne2, h.ne3, h.len, h.small⟩
theorem MemAt.alloc {w : World} {l : Loc} {m : Mem} (h : MemAt w l m) (o : Obj) : MemAt (w.alloc o) l m :=
  ⟨h.hd.alloc o, h.aw.alloc o, h.an.alloc o, h.ne1, h.ne2, h.ne3, h.len, h.small⟩
theorem MemAt.drew {w : World} {l : Loc} {m : Mem} (h : MemAt w l m) : MemAt w.drew l m := ⟨h.hd, h.aw, h.an, h.ne1, h.ne2, h.ne3, h.len, h.small⟩
theorem MemAt.drewN {w : World} {l : Loc} {m : Mem} (h : MemAt w l m) (n : Nat) : MemAt (w.drewN n) l m := ⟨h.hd, h.aw, h.an, h.ne1, h.ne2, h.ne3, h.len, h.small⟩
theorem MemAt.setCell {w : World} {l : Loc} {m : Mem} (h : MemAt w l m) {p : Addr} (h1 : l.m ≠ p.block) (h2 : l.w ≠ p.block) (h3 : l.n ≠ p.block) (v : Value) : MemAt (w.setCell p v) l m :=
  ⟨h.hd.setOther h1 v, h.aw.setOther h2 v, h.an.setOther h3 v, h.ne1, h.ne2, h.ne3, h.len, h.small⟩

theorem MemAt.nin {w : World} {l : Loc} {m : Mem} (h : MemAt w l m) {k : Nat} (hk : w.heap.size ≤ k) : k ∉ l.list := by
  have h1 := h.hd.lt
  have h2 := h.aw.lt
  have h3 := h.an.lt
  simp only [Loc.list, List.mem_cons, List.not_mem_nil, or_false]
  omega
theorem MemAt.frl {w w' : World} {S : List Nat} {l : Loc} {m : Mem} (h : MemAt w l m) (f : Fr S w w') (hs : ∀ k ∈ l.list, k ∉ S) : MemAt w' l m :=
  h.fr f (hs _ (by simp [Loc.list])) (hs _ (by simp [Loc.list])) (hs _ (by simp [Loc.list]))

theorem MemAt.setN {w : World} {l : Loc} {m : Mem} (h : MemAt w l m) {p : Addr} (hp : p.block ∉ l.list) (v : Value) : MemAt (w.setCell p v) l m := by
  simp only [Loc.list, List.mem_cons, List.not_mem_nil, or_false, not_or] at hp
  exact h.setCell (Ne.symm hp.1) (Ne.symm hp.2.1) (Ne.symm hp.2.2) v

/-! ### lengths that stay -/
theorem Mem.len_tick (m : Mem) (who a : Int) : (m.tick who a).w.length = m.w.length := rfl
theorem Mem.len_lay (m : Mem) (who a v : Int) : (m.lay who a v).w.length = m.w.length := by simp [Mem.lay]
end Go.Proofs.Ytkgbifagledcaaa.FL
