/-
  The contracts of layer 15 (act): a step.
-/
import Derived.Test.YtkgbifagledcaaaXA
namespace Go.Proofs.Ytkgbifagledcaaa.FL
open Go Go.RowKit
set_option linter.unusedVariables false
set_option linter.unusedSimpArgs false
set_option maxRecDepth 20000
set_option maxHeartbeats 4000000
attribute [local go_sem ↓] Go.wp_at_zero Go.wp_at_succ
attribute [local go_sem] fieldSlot0 fieldSlot1 fieldSlot2 fieldSlot3 fieldChunk0 fieldChunk1 fieldChunk3 fieldCell0

theorem ahead_allocStep (a : Addr) (w : World) : (nilAhead 157 107 (.pointer (some a)) "Step").run Try.prog w = .ok (some false) w := by kernel_rfl
theorem meth_allocStep (a : Addr) (w : World) : (method 157 107 (.pointer (some a)) "Step").run Try.prog w = .ok (68, .pointer (some a)) w := by kernel_rfl
theorem ahead_allocDone (a : Addr) (w : World) : (nilAhead 157 107 (.pointer (some a)) "Done").run Try.prog w = .ok (some false) w := by kernel_rfl
theorem meth_allocDone (a : Addr) (w : World) : (method 157 107 (.pointer (some a)) "Done").run Try.prog w = .ok (69, .pointer (some a)) w := by kernel_rfl
theorem ahead_dropStep (a : Addr) (w : World) : (nilAhead 157 116 (.pointer (some a)) "Step").run Try.prog w = .ok (some false) w := by kernel_rfl
theorem meth_dropStep (a : Addr) (w : World) : (method 157 116 (.pointer (some a)) "Step").run Try.prog w = .ok (71, .pointer (some a)) w := by kernel_rfl
theorem ahead_dropDone (a : Addr) (w : World) : (nilAhead 157 116 (.pointer (some a)) "Done").run Try.prog w = .ok (some false) w := by kernel_rfl
theorem meth_dropDone (a : Addr) (w : World) : (method 157 116 (.pointer (some a)) "Done").run Try.prog w = .ok (72, .pointer (some a)) w := by kernel_rfl
theorem ahead_accessStep (a : Addr) (w : World) : (nilAhead 157 44 (.pointer (some a)) "Step").run Try.prog w = .ok (some false) w := by kernel_rfl
theorem meth_accessStep (a : Addr) (w : World) : (method 157 44 (.pointer (some a)) "Step").run Try.prog w = .ok (29, .pointer (some a)) w := by kernel_rfl
theorem ahead_accessDone (a : Addr) (w : World) : (nilAhead 157 44 (.pointer (some a)) "Done").run Try.prog w = .ok (some false) w := by kernel_rfl
theorem meth_accessDone (a : Addr) (w : World) : (method 157 44 (.pointer (some a)) "Done").run Try.prog w = .ok (30, .pointer (some a)) w := by kernel_rfl
def Act1Post (K : World → List Nat → Prop) (w w' : World) (b : Nat) (Fw : List Nat) (l : Loc) (m : Mem) (arr : Array Value) : Prop :=
  ∃ F', At w' b 154 arr ∧ K w' F' ∧ MemAt w' l m ∧ Fr (b :: Fw ++ l.list) w w' ∧ (∀ k ∈ F', k ∈ Fw ∨ w.heap.size < k)
theorem Fr.setB {b : Nat} {L : List Nat} {a w : World} (h : Fr (b :: L) a w) {i : Nat} {v : Value} : Fr (b :: L) a (w.setCell ⟨b, i, none⟩ v) := Fr.setCell h (Or.inl (by simp)) v
attribute [local go_sem] ahead_allocStep meth_allocStep ahead_allocDone meth_allocDone ahead_dropStep meth_dropStep ahead_dropDone meth_dropDone ahead_accessStep meth_accessStep ahead_accessDone meth_accessDone

theorem actDone_any (w : World) (a : Act) (b : Nat) (F : List Nat) (hb : ActAt w b F a) :
    Calls Try.prog 65 #[.pointer (some ⟨b, 0, none⟩)] w fun r w' => r = .returned (.agg a.out.arr) ∧ Fr [] w w' := by
  obtain ⟨v, Fw, rfl, ha, hp, h1⟩ := hb
  have p0 := ha.cell
  have lb := ha.lt
  go_enter Try.func65, Try.ntmps65
  go_upto_region 3 with (fail)
  go_cut [2] (fun s2 wx => s2 = .pointer (some ⟨w.heap.size, 0, none⟩) ∧ At wx w.heap.size 36 a.out.arr ∧ Fr [] w wx)
  case first =>
    go_wp2_with fail
    go_meet
    exact ⟨rfl, At.newAt (by simp), by ((repeat' (first | (with_reducible assumption) | (with_reducible exact Fr.refl _ _) | (with_reducible refine Fr.drew ?_) | (with_reducible refine Fr.drewN ?_ _) | (with_reducible refine Fr.alloc ?_ _) | (with_reducible refine Fr.setCell ?_ ?_ _))); all_goals (first | (left; simp only [List.mem_cons, true_or, or_true]; done) | (left; simp only [List.mem_cons, List.mem_append, true_or, or_true]; done) | (right; simp only []; omega) | (right; simp; done) | (right; simp; omega) | (left; simp; done)))⟩
  case rest =>
    obtain ⟨rfl, B, F⟩ := hcut
    have cB := B.cell
    go_wp2
    exact bodyPost_ret (v := .agg a.out.arr) (by simp [results, Try.results65, go_sem, cB]) rfl ⟨rfl, F⟩

/-- pc 0: the epoch is pinned. -/
theorem act0 (e : Env) (w : World) (l : Loc) (m : Mem) (h : MemAt w l m) (a : Act) (v : Value) (b : Nat) (hb : At w b 154 #[.int .i64 a.pin.pc, .int .u64 a.pin.epoch, .int .i64 0, v, .int .i64 a.out.e, .int .u64 a.out.handle, .int .i64 a.out.value, .int .i64 a.out.stamp]) (n1 : b ∉ l.list) :
    Calls Try.prog 63 #[.pointer (some ⟨b, 0, none⟩), .agg (e.arr l)] w fun r w' =>
      r = .returned (.bool false) ∧ At w' b 154 #[.int .i64 (a.pin.step e m).1.pc, .int .u64 (a.pin.step e m).1.epoch, .int .i64 (if (a.pin.step e m).2.2 then 1 else 0), v, .int .i64 a.out.e, .int .u64 a.out.handle, .int .i64 a.out.value, .int .i64 a.out.stamp] ∧ MemAt w' l (a.pin.step e m).2.1 ∧ Fr (b :: l.list) w w' := by
  have p0 := hb.cell; have f0 := hb.frozen; have lb := hb.lt; have lm := h.hd.lt; have b0 := At.new w 30 (e.arr l); have c0 := b0.cell; have n0 := h.nin (Nat.le_refl w.heap.size); have nl : ∀ k, w.heap.size ≤ k → k ∉ l.list := fun k hk => h.nin hk
  obtain ⟨X, hX⟩ : ∃ X, a.pin.step e m = X := ⟨_, rfl⟩
  rw [hX]
  have HX := hid hX
  obtain ⟨q, m', d⟩ := X
  clear hX
  go_enter Try.func63, Try.ntmps63
  go_wp2_with fail
  go_region_held3 (fun w' => (∀ i, w'.cell? ⟨w.heap.size, i, none⟩ = (e.arr l)[i]?)) (((try dsimp only); (repeat' apply And.intro); all_goals (first | with_reducible exact b1.cell | with_reducible exact p1 | with_reducible assumption | (refine At.cell (t := 30) ?_; ((repeat' (first | (with_reducible assumption) | (with_reducible apply At.drew) | (with_reducible apply At.drewN) | (with_reducible refine At.newAt ?_; (simp; done)) | (with_reducible apply At.alloc) | (with_reducible apply At.set) | (with_reducible apply At.setOther))); all_goals (first | assumption | (apply Ne.symm; assumption) | omega | (simp only []; omega) | (simp; done) | (simp; omega)))) | (refine At.cells (by ((repeat' (first | (with_reducible assumption) | (with_reducible apply At.drew) | (with_reducible apply At.drewN) | (with_reducible refine At.newAt ?_; (simp; done)) | (with_reducible apply At.alloc) | (with_reducible apply At.set) | (with_reducible apply At.setOther))); all_goals (first | assumption | (apply Ne.symm; assumption) | omega | (simp only []; omega) | (simp; done) | (simp; omega)))) ?_; (first | rfl | (simp; done))) | (rw [World.cell?_setCell_other _ _ _ _ (by simp)]; assumption) | (refine (At.cell (by ((repeat' (first | (with_reducible assumption) | (with_reducible apply At.drew) | (with_reducible apply At.drewN) | (with_reducible refine At.newAt ?_; (simp; done)) | (with_reducible apply At.alloc) | (with_reducible apply At.set) | (with_reducible apply At.setOther))); all_goals (first | assumption | (apply Ne.symm; assumption) | omega | (simp only []; omega) | (simp; done) | (simp; omega)))) _).trans ?_; (simp; done)) | (go_keep; done)))) (first | (go_at_call 104; (try simp only [IntWalk.i64_left]); refine (pinIn_any e _ l m (by ((repeat' (first | (with_reducible assumption) | (with_reducible apply MemAt.drew) | (with_reducible apply MemAt.drewN) | (with_reducible apply MemAt.alloc) | (with_reducible apply MemAt.setN))); all_goals (first | assumption | (simp only []; assumption) | (refine nl _ ?_; first | omega | (simp only []; omega) | (simp; omega))))) a.pin 154 _ _ _ _ _ _ b (by ((repeat' (first | (with_reducible assumption) | (with_reducible apply At.drew) | (with_reducible apply At.drewN) | (with_reducible refine At.newAt ?_; (simp; done)) | (with_reducible apply At.alloc) | (with_reducible apply At.set) | (with_reducible apply At.setOther))); all_goals (first | assumption | (apply Ne.symm; assumption) | omega | (simp only []; omega) | (simp; done) | (simp; omega)))) n1).mono ?_; rw [HX.out]; rintro r w1 ⟨rfl, hb1, h1, f1⟩; have F1 := (Fr.sub (S := b :: l.list) (a := w) (by ((repeat' (first | (with_reducible assumption) | (with_reducible exact Fr.refl _ _) | (with_reducible refine Fr.drew ?_) | (with_reducible refine Fr.drewN ?_ _) | (with_reducible refine Fr.alloc ?_ _) | (with_reducible refine Fr.setCell ?_ ?_ _))); all_goals (first | (left; simp only [List.mem_cons, true_or, or_true]; done) | (left; simp only [List.mem_cons, List.mem_append, true_or, or_true]; done) | (right; simp only []; omega) | (right; simp; done) | (right; simp; omega) | (left; simp; done)))) f1 (by simp +contextual)); have p1 := hb1.cell; have g1 := hb1.frozen; have lb1 := hb1.lt; have b1 := At.fr (b := w.heap.size) (t := 30) (vs := e.arr l) (by ((repeat' (first | (with_reducible assumption) | (with_reducible apply At.drew) | (with_reducible apply At.drewN) | (with_reducible refine At.newAt ?_; (simp; done)) | (with_reducible apply At.alloc) | (with_reducible apply At.set) | (with_reducible apply At.setOther))); all_goals (first | assumption | (apply Ne.symm; assumption) | omega | (simp only []; omega) | (simp; done) | (simp; omega)))) f1 (by simp only [List.mem_cons, not_or]; exact ⟨by omega, n0⟩); have c1 := b1.cell))
  cases d with
  | true =>
    go_wp2
    go_ret
    (refine ⟨rfl, ?_, ?_, ?_⟩; (focus (refine At.to (by ((repeat' (first | (with_reducible assumption) | (with_reducible apply At.drew) | (with_reducible apply At.drewN) | (with_reducible refine At.newAt ?_; (simp; done)) | (with_reducible apply At.alloc) | (with_reducible apply At.set) | (with_reducible apply At.setOther))); all_goals (first | assumption | (apply Ne.symm; assumption) | omega | (simp only []; omega) | (simp; done) | (simp; omega)))) ?_; (first | rfl | (simp [inc]; done) | (simp [inc, IntWalk.i64_left]; done)))); (focus ((repeat' (first | (with_reducible assumption) | (with_reducible apply MemAt.drew) | (with_reducible apply MemAt.drewN) | (with_reducible apply MemAt.alloc) | (with_reducible apply MemAt.setN))); all_goals (first | assumption | (simp only []; assumption) | (refine nl _ ?_; first | omega | (simp only []; omega) | (simp; omega))))); (focus ((repeat' (first | (with_reducible assumption) | (with_reducible exact Fr.refl _ _) | (with_reducible refine Fr.drew ?_) | (with_reducible refine Fr.drewN ?_ _) | (with_reducible refine Fr.alloc ?_ _) | (with_reducible refine Fr.setCell ?_ ?_ _))); all_goals (first | (left; simp only [List.mem_cons, true_or, or_true]; done) | (left; simp only [List.mem_cons, List.mem_append, true_or, or_true]; done) | (right; simp only []; omega) | (right; simp; done) | (right; simp; omega) | (left; simp; done)))))
  | false =>
    go_wp2
    go_ret
    (refine ⟨rfl, ?_, ?_, ?_⟩; (focus (refine At.to (by ((repeat' (first | (with_reducible assumption) | (with_reducible apply At.drew) | (with_reducible apply At.drewN) | (with_reducible refine At.newAt ?_; (simp; done)) | (with_reducible apply At.alloc) | (with_reducible apply At.set) | (with_reducible apply At.setOther))); all_goals (first | assumption | (apply Ne.symm; assumption) | omega | (simp only []; omega) | (simp; done) | (simp; omega)))) ?_; (first | rfl | (simp [inc]; done) | (simp [inc, IntWalk.i64_left]; done)))); (focus ((repeat' (first | (with_reducible assumption) | (with_reducible apply MemAt.drew) | (with_reducible apply MemAt.drewN) | (with_reducible apply MemAt.alloc) | (with_reducible apply MemAt.setN))); all_goals (first | assumption | (simp only []; assumption) | (refine nl _ ?_; first | omega | (simp only []; omega) | (simp; omega))))); (focus ((repeat' (first | (with_reducible assumption) | (with_reducible exact Fr.refl _ _) | (with_reducible refine Fr.drew ?_) | (with_reducible refine Fr.drewN ?_ _) | (with_reducible refine Fr.alloc ?_ _) | (with_reducible refine Fr.setCell ?_ ?_ _))); all_goals (first | (left; simp only [List.mem_cons, true_or, or_true]; done) | (left; simp only [List.mem_cons, List.mem_append, true_or, or_true]; done) | (right; simp only []; omega) | (right; simp; done) | (right; simp; omega) | (left; simp; done)))))
/-- behind all: the pin is taken off. -/
theorem act2 (e : Env) (w : World) (l : Loc) (m : Mem) (h : MemAt w l m) (b : Nat) (pc : Int) (v0 v1 v3 v4 v5 v6 v7 : Value) (hb : At w b 154 #[v0, v1, .int .i64 pc, v3, v4, v5, v6, v7]) (n1 : b ∉ l.list) (h0 : pc ≠ 0) (h1 : pc ≠ 1) :
    Calls Try.prog 63 #[.pointer (some ⟨b, 0, none⟩), .agg (e.arr l)] w fun r w' => r = .returned (.bool true) ∧ MemAt w' l (pinOut e m) ∧ Fr l.list w w' := by
  have d0 : (pc == 0) = false := by simpa using h0
  have d1 : (pc == 1) = false := by simpa using h1
  clear h0 h1
  have p0 := hb.cell; have f0 := hb.frozen; have lb := hb.lt; have lm := h.hd.lt; have b0 := At.new w 30 (e.arr l); have c0 := b0.cell; have n0 := h.nin (Nat.le_refl w.heap.size); have nl : ∀ k, w.heap.size ≤ k → k ∉ l.list := fun k hk => h.nin hk
  go_enter Try.func63, Try.ntmps63
  go_wp2_with fail
  refine (pinOut_any e _ l m (by ((repeat' (first | (with_reducible assumption) | (with_reducible apply MemAt.drew) | (with_reducible apply MemAt.drewN) | (with_reducible apply MemAt.alloc) | (with_reducible apply MemAt.setN))); all_goals (first | assumption | (simp only []; assumption) | (refine nl _ ?_; first | omega | (simp only []; omega) | (simp; omega)))))).mono ?_
  rintro r w1 ⟨rfl, h1, f1⟩
  have F1 := Fr.sub (S := l.list) (a := w) (by ((repeat' (first | (with_reducible assumption) | (with_reducible exact Fr.refl _ _) | (with_reducible refine Fr.drew ?_) | (with_reducible refine Fr.drewN ?_ _) | (with_reducible refine Fr.alloc ?_ _) | (with_reducible refine Fr.setCell ?_ ?_ _))); all_goals (first | (left; simp only [List.mem_cons, true_or, or_true]; done) | (left; simp only [List.mem_cons, List.mem_append, true_or, or_true]; done) | (right; simp only []; omega) | (right; simp; done) | (right; simp; omega) | (left; simp; done)))) f1 (by simp)
  go_wp2
  go_ret
  exact ⟨rfl, h1, F1⟩

theorem act1_alloc (e : Env) (w : World) (l : Loc) (m : Mem) (h : MemAt w l m) (x : Alloc) (bw : Nat) (Fw : List Nat) (hx : AllocAt w bw Fw x) (hd : ∀ k ∈ Fw, k ∉ l.list) (ok : x.Ok) (b : Nat) (v0 v1 v4 v5 v6 v7 : Value) (hb : At w b 154 #[v0, v1, .int .i64 1, .iface 107 (.pointer (some ⟨bw, 0, none⟩)), v4, v5, v6, v7]) (n1 : b ∉ l.list) (n2 : b ∉ Fw) :
    Calls Try.prog 63 #[.pointer (some ⟨b, 0, none⟩), .agg (e.arr l)] w fun r w' =>
      r = .returned (.bool false) ∧ Act1Post (fun w' F' => AllocAt w' bw F' (x.step e m).1) w w' b Fw l (x.step e m).2.1 (if (x.step e m).2.2 then #[v0, v1, .int .i64 2, .iface 107 (.pointer (some ⟨bw, 0, none⟩)), .int .i64 (x.step e m).1.out.e, .int .u64 (x.step e m).1.out.handle, .int .i64 (x.step e m).1.out.value, .int .i64 (x.step e m).1.out.stamp] else #[v0, v1, .int .i64 1, .iface 107 (.pointer (some ⟨bw, 0, none⟩)), v4, v5, v6, v7]) := by
  have p0 := hb.cell; have f0 := hb.frozen; have lb := hb.lt; have lm := h.hd.lt; have b0 := At.new w 30 (e.arr l); have c0 := b0.cell; have n0 := h.nin (Nat.le_refl w.heap.size); have nl : ∀ k, w.heap.size ≤ k → k ∉ l.list := fun k hk => h.nin hk
  have lx := hx.lt
  obtain ⟨X, hX⟩ : ∃ X, x.step e m = X := ⟨_, rfl⟩
  rw [hX]
  have HX := hid hX
  have LX := hid lx
  have HD := hid hd
  obtain ⟨q, m', d⟩ := X
  clear hX lx hd
  go_enter Try.func63, Try.ntmps63
  go_wp2_with fail
  go_region_held3 (fun w' => (∀ i, w'.cell? ⟨w.heap.size, i, none⟩ = (e.arr l)[i]?) ∧ w'.cell? ⟨b, 3, none⟩ = some (.iface 107 (.pointer (some ⟨bw, 0, none⟩)))) (((try dsimp only); (repeat' apply And.intro); all_goals (first | with_reducible exact b1.cell | with_reducible exact p1 | with_reducible assumption | (refine At.cell (t := 30) ?_; ((repeat' (first | (with_reducible assumption) | (with_reducible apply At.drew) | (with_reducible apply At.drewN) | (with_reducible refine At.newAt ?_; (simp; done)) | (with_reducible apply At.alloc) | (with_reducible apply At.set) | (with_reducible apply At.setOther))); all_goals (first | assumption | (apply Ne.symm; assumption) | omega | (simp only []; omega) | (simp; done) | (simp; omega)))) | (refine At.cells (by ((repeat' (first | (with_reducible assumption) | (with_reducible apply At.drew) | (with_reducible apply At.drewN) | (with_reducible refine At.newAt ?_; (simp; done)) | (with_reducible apply At.alloc) | (with_reducible apply At.set) | (with_reducible apply At.setOther))); all_goals (first | assumption | (apply Ne.symm; assumption) | omega | (simp only []; omega) | (simp; done) | (simp; omega)))) ?_; (first | rfl | (simp; done))) | (rw [World.cell?_setCell_other _ _ _ _ (by simp)]; assumption) | (refine (At.cell (by ((repeat' (first | (with_reducible assumption) | (with_reducible apply At.drew) | (with_reducible apply At.drewN) | (with_reducible refine At.newAt ?_; (simp; done)) | (with_reducible apply At.alloc) | (with_reducible apply At.set) | (with_reducible apply At.setOther))); all_goals (first | assumption | (apply Ne.symm; assumption) | omega | (simp only []; omega) | (simp; done) | (simp; omega)))) _).trans ?_; (simp; done)) | (go_keep; done)))) (first | (go_at_call 68; (try simp only [IntWalk.i64_left]); refine (alloc_any e _ l m (by ((repeat' (first | (with_reducible assumption) | (with_reducible apply MemAt.drew) | (with_reducible apply MemAt.drewN) | (with_reducible apply MemAt.alloc) | (with_reducible apply MemAt.setN))); all_goals (first | assumption | (simp only []; assumption) | (refine nl _ ?_; first | omega | (simp only []; omega) | (simp; omega))))) x bw Fw (hx.fr (S := []) (by ((repeat' (first | (with_reducible assumption) | (with_reducible exact Fr.refl _ _) | (with_reducible refine Fr.drew ?_) | (with_reducible refine Fr.drewN ?_ _) | (with_reducible refine Fr.alloc ?_ _) | (with_reducible refine Fr.setCell ?_ ?_ _))); all_goals (first | (left; simp only [List.mem_cons, true_or, or_true]; done) | (left; simp only [List.mem_cons, List.mem_append, true_or, or_true]; done) | (right; simp only []; omega) | (right; simp; done) | (right; simp; omega) | (left; simp; done)))) (by simp)) HD.out ok).mono ?_; rw [HX.out]; rintro r w1 ⟨F', rfl, hx1, h1, f1, hF'⟩; have nin : ∀ q, (q = b ∨ q = w.heap.size) → q ∉ Fw ++ l.list := (fun q hq hm => by rw [List.mem_append] at hm; rcases hq with rfl | rfl; (rcases hm with hm | hm; exact n2 hm; exact n1 hm); (rcases hm with hm | hm; (have := LX.out _ hm; omega); exact n0 hm)); have hb1 := At.fr (b := b) (by ((repeat' (first | (with_reducible assumption) | (with_reducible apply At.drew) | (with_reducible apply At.drewN) | (with_reducible refine At.newAt ?_; (simp; done)) | (with_reducible apply At.alloc) | (with_reducible apply At.set) | (with_reducible apply At.setOther))); all_goals (first | assumption | (apply Ne.symm; assumption) | omega | (simp only []; omega) | (simp; done) | (simp; omega)))) f1 (nin _ (Or.inl rfl)); have p1 := hb1.cell; have g1 := hb1.frozen; have lb1 := hb1.lt; have b1 := At.fr (b := w.heap.size) (t := 30) (vs := e.arr l) (by ((repeat' (first | (with_reducible assumption) | (with_reducible apply At.drew) | (with_reducible apply At.drewN) | (with_reducible refine At.newAt ?_; (simp; done)) | (with_reducible apply At.alloc) | (with_reducible apply At.set) | (with_reducible apply At.setOther))); all_goals (first | assumption | (apply Ne.symm; assumption) | omega | (simp only []; omega) | (simp; done) | (simp; omega)))) f1 (nin _ (Or.inr rfl)); have c1 := b1.cell; have le1 := b1.lt; have F1 := Fr.trans' (S := b :: Fw ++ l.list) (a := w) (by ((repeat' (first | (with_reducible assumption) | (with_reducible exact Fr.refl _ _) | (with_reducible refine Fr.drew ?_) | (with_reducible refine Fr.drewN ?_ _) | (with_reducible refine Fr.alloc ?_ _) | (with_reducible refine Fr.setCell ?_ ?_ _))); all_goals (first | (left; simp only [List.mem_cons, true_or, or_true]; done) | (left; simp only [List.mem_cons, List.mem_append, true_or, or_true]; done) | (right; simp only []; omega) | (right; simp; done) | (right; simp; omega) | (left; simp; done)))) f1 (fun q hq _ => by simp only [List.cons_append, List.mem_cons]; exact Or.inr hq); have HF := hid (show ∀ k ∈ F', k ∈ Fw ∨ w.heap.size < k from fun k hk => by rcases hF' k hk with q | q; exact Or.inl q; (simp only [World.size_alloc, World.size_drew] at q; exact Or.inr (by omega))); clear nin f1 hF'))
  cases d with
  | false =>
    go_wp2
    go_ret
    refine ⟨rfl, F', ?_, hx1.fr (S := []) (by ((repeat' (first | (with_reducible assumption) | (with_reducible exact Fr.refl _ _) | (with_reducible refine Fr.drew ?_) | (with_reducible refine Fr.drewN ?_ _) | (with_reducible refine Fr.alloc ?_ _) | (with_reducible refine Fr.setCell ?_ ?_ _))); all_goals (first | (left; simp only [List.mem_cons, true_or, or_true]; done) | (left; simp only [List.mem_cons, List.mem_append, true_or, or_true]; done) | (right; simp only []; omega) | (right; simp; done) | (right; simp; omega) | (left; simp; done)))) (by simp), (by ((repeat' (first | (with_reducible assumption) | (with_reducible apply MemAt.drew) | (with_reducible apply MemAt.drewN) | (with_reducible apply MemAt.alloc) | (with_reducible apply MemAt.setN))); all_goals (first | assumption | (simp only []; assumption) | (refine nl _ ?_; first | omega | (simp only []; omega) | (simp; omega))))), F1, HF.out⟩
    (refine At.to (by ((repeat' (first | (with_reducible assumption) | (with_reducible apply At.drew) | (with_reducible apply At.drewN) | (with_reducible refine At.newAt ?_; (simp; done)) | (with_reducible apply At.alloc) | (with_reducible apply At.set) | (with_reducible apply At.setOther))); all_goals (first | assumption | (apply Ne.symm; assumption) | omega | (simp only []; omega) | (simp; done) | (simp; omega)))) ?_; (first | rfl | (simp [inc]; done) | (simp [inc, IntWalk.i64_left]; done)))
  | true =>
    go_wp2_with fail
    refine (alloc_done _ q bw F' hx1).mono ?_
    rintro r w2 ⟨rfl, f2⟩
    have hb1 := At.fr (b := b) (by ((repeat' (first | (with_reducible assumption) | (with_reducible apply At.drew) | (with_reducible apply At.drewN) | (with_reducible refine At.newAt ?_; (simp; done)) | (with_reducible apply At.alloc) | (with_reducible apply At.set) | (with_reducible apply At.setOther))); all_goals (first | assumption | (apply Ne.symm; assumption) | omega | (simp only []; omega) | (simp; done) | (simp; omega)))) f2 (by simp)
    have p1 := hb1.cell
    have g1 := hb1.frozen
    have lb1 := hb1.lt
    have h1 := MemAt.frl (l := l) (by ((repeat' (first | (with_reducible assumption) | (with_reducible apply MemAt.drew) | (with_reducible apply MemAt.drewN) | (with_reducible apply MemAt.alloc) | (with_reducible apply MemAt.setN))); all_goals (first | assumption | (simp only []; assumption) | (refine nl _ ?_; first | omega | (simp only []; omega) | (simp; omega))))) f2 (by simp)
    have hx2 := hx1.fr f2 (by simp)
    have F1 := Fr.sub (S := b :: Fw ++ l.list) (a := w) F1 f2 (by simp)
    clear f2
    go_wp2
    go_ret
    refine ⟨rfl, F', ?_, ?_, (by ((repeat' (first | (with_reducible assumption) | (with_reducible apply MemAt.drew) | (with_reducible apply MemAt.drewN) | (with_reducible apply MemAt.alloc) | (with_reducible apply MemAt.setN))); all_goals (first | assumption | (simp only []; assumption) | (refine nl _ ?_; first | omega | (simp only []; omega) | (simp; omega))))), ?_, HF.out⟩
    · (refine At.to (by ((repeat' (first | (with_reducible assumption) | (with_reducible apply At.drew) | (with_reducible apply At.drewN) | (with_reducible refine At.newAt ?_; (simp; done)) | (with_reducible apply At.alloc) | (with_reducible apply At.set) | (with_reducible apply At.setOther))); all_goals (first | assumption | (apply Ne.symm; assumption) | omega | (simp only []; omega) | (simp; done) | (simp; omega)))) ?_; (first | rfl | (simp [inc]; done) | (simp [inc, IntWalk.i64_left]; done)))
    · exact hx2.fr (S := [b]) (by ((repeat' (first | (with_reducible assumption) | (with_reducible exact Fr.refl _ _) | (with_reducible refine Fr.drew ?_) | (with_reducible refine Fr.drewN ?_ _) | (with_reducible refine Fr.alloc ?_ _) | (with_reducible refine Fr.setCell ?_ ?_ _))); all_goals (first | (left; simp only [List.mem_cons, true_or, or_true]; done) | (left; simp only [List.mem_cons, List.mem_append, true_or, or_true]; done) | (right; simp only []; omega) | (right; simp; done) | (right; simp; omega) | (left; simp; done)))) (fun k hk q => by simp only [List.mem_singleton] at q; subst q; rcases HF.out _ hk with q | q; exact n2 q; omega)
    · exact Fr.setB (Fr.setB (Fr.setB (Fr.setB (Fr.setB F1))))

theorem act1_drop (e : Env) (w : World) (l : Loc) (m : Mem) (h : MemAt w l m) (x : Drop) (bw : Nat) (Fw : List Nat) (hx : DropAt w bw Fw x) (hd : ∀ k ∈ Fw, k ∉ l.list) (ok : x.Ok e.c) (b : Nat) (v0 v1 v4 v5 v6 v7 : Value) (hb : At w b 154 #[v0, v1, .int .i64 1, .iface 116 (.pointer (some ⟨bw, 0, none⟩)), v4, v5, v6, v7]) (n1 : b ∉ l.list) (n2 : b ∉ Fw) :
    Calls Try.prog 63 #[.pointer (some ⟨b, 0, none⟩), .agg (e.arr l)] w fun r w' =>
      r = .returned (.bool false) ∧ Act1Post (fun w' F' => DropAt w' bw F' (x.step e m).1) w w' b Fw l (x.step e m).2.1 (if (x.step e m).2.2 then #[v0, v1, .int .i64 2, .iface 116 (.pointer (some ⟨bw, 0, none⟩)), .int .i64 (x.step e m).1.out.e, .int .u64 (x.step e m).1.out.handle, .int .i64 (x.step e m).1.out.value, .int .i64 (x.step e m).1.out.stamp] else #[v0, v1, .int .i64 1, .iface 116 (.pointer (some ⟨bw, 0, none⟩)), v4, v5, v6, v7]) := by
  have p0 := hb.cell; have f0 := hb.frozen; have lb := hb.lt; have lm := h.hd.lt; have b0 := At.new w 30 (e.arr l); have c0 := b0.cell; have n0 := h.nin (Nat.le_refl w.heap.size); have nl : ∀ k, w.heap.size ≤ k → k ∉ l.list := fun k hk => h.nin hk
  have lx := hx.lt
  obtain ⟨X, hX⟩ : ∃ X, x.step e m = X := ⟨_, rfl⟩
  rw [hX]
  have HX := hid hX
  have LX := hid lx
  have HD := hid hd
  obtain ⟨q, m', d⟩ := X
  clear hX lx hd
  go_enter Try.func63, Try.ntmps63
  go_wp2_with fail
  go_region_held3 (fun w' => (∀ i, w'.cell? ⟨w.heap.size, i, none⟩ = (e.arr l)[i]?) ∧ w'.cell? ⟨b, 3, none⟩ = some (.iface 116 (.pointer (some ⟨bw, 0, none⟩)))) (((try dsimp only); (repeat' apply And.intro); all_goals (first | with_reducible exact b1.cell | with_reducible exact p1 | with_reducible assumption | (refine At.cell (t := 30) ?_; ((repeat' (first | (with_reducible assumption) | (with_reducible apply At.drew) | (with_reducible apply At.drewN) | (with_reducible refine At.newAt ?_; (simp; done)) | (with_reducible apply At.alloc) | (with_reducible apply At.set) | (with_reducible apply At.setOther))); all_goals (first | assumption | (apply Ne.symm; assumption) | omega | (simp only []; omega) | (simp; done) | (simp; omega)))) | (refine At.cells (by ((repeat' (first | (with_reducible assumption) | (with_reducible apply At.drew) | (with_reducible apply At.drewN) | (with_reducible refine At.newAt ?_; (simp; done)) | (with_reducible apply At.alloc) | (with_reducible apply At.set) | (with_reducible apply At.setOther))); all_goals (first | assumption | (apply Ne.symm; assumption) | omega | (simp only []; omega) | (simp; done) | (simp; omega)))) ?_; (first | rfl | (simp; done))) | (rw [World.cell?_setCell_other _ _ _ _ (by simp)]; assumption) | (refine (At.cell (by ((repeat' (first | (with_reducible assumption) | (with_reducible apply At.drew) | (with_reducible apply At.drewN) | (with_reducible refine At.newAt ?_; (simp; done)) | (with_reducible apply At.alloc) | (with_reducible apply At.set) | (with_reducible apply At.setOther))); all_goals (first | assumption | (apply Ne.symm; assumption) | omega | (simp only []; omega) | (simp; done) | (simp; omega)))) _).trans ?_; (simp; done)) | (go_keep; done)))) (first | (go_at_call 71; (try simp only [IntWalk.i64_left]); refine (drop_any e _ l m (by ((repeat' (first | (with_reducible assumption) | (with_reducible apply MemAt.drew) | (with_reducible apply MemAt.drewN) | (with_reducible apply MemAt.alloc) | (with_reducible apply MemAt.setN))); all_goals (first | assumption | (simp only []; assumption) | (refine nl _ ?_; first | omega | (simp only []; omega) | (simp; omega))))) x bw Fw (hx.fr (S := []) (by ((repeat' (first | (with_reducible assumption) | (with_reducible exact Fr.refl _ _) | (with_reducible refine Fr.drew ?_) | (with_reducible refine Fr.drewN ?_ _) | (with_reducible refine Fr.alloc ?_ _) | (with_reducible refine Fr.setCell ?_ ?_ _))); all_goals (first | (left; simp only [List.mem_cons, true_or, or_true]; done) | (left; simp only [List.mem_cons, List.mem_append, true_or, or_true]; done) | (right; simp only []; omega) | (right; simp; done) | (right; simp; omega) | (left; simp; done)))) (by simp)) HD.out ok).mono ?_; rw [HX.out]; rintro r w1 ⟨F', rfl, hx1, h1, f1, hF'⟩; have nin : ∀ q, (q = b ∨ q = w.heap.size) → q ∉ Fw ++ l.list := (fun q hq hm => by rw [List.mem_append] at hm; rcases hq with rfl | rfl; (rcases hm with hm | hm; exact n2 hm; exact n1 hm); (rcases hm with hm | hm; (have := LX.out _ hm; omega); exact n0 hm)); have hb1 := At.fr (b := b) (by ((repeat' (first | (with_reducible assumption) | (with_reducible apply At.drew) | (with_reducible apply At.drewN) | (with_reducible refine At.newAt ?_; (simp; done)) | (with_reducible apply At.alloc) | (with_reducible apply At.set) | (with_reducible apply At.setOther))); all_goals (first | assumption | (apply Ne.symm; assumption) | omega | (simp only []; omega) | (simp; done) | (simp; omega)))) f1 (nin _ (Or.inl rfl)); have p1 := hb1.cell; have g1 := hb1.frozen; have lb1 := hb1.lt; have b1 := At.fr (b := w.heap.size) (t := 30) (vs := e.arr l) (by ((repeat' (first | (with_reducible assumption) | (with_reducible apply At.drew) | (with_reducible apply At.drewN) | (with_reducible refine At.newAt ?_; (simp; done)) | (with_reducible apply At.alloc) | (with_reducible apply At.set) | (with_reducible apply At.setOther))); all_goals (first | assumption | (apply Ne.symm; assumption) | omega | (simp only []; omega) | (simp; done) | (simp; omega)))) f1 (nin _ (Or.inr rfl)); have c1 := b1.cell; have le1 := b1.lt; have F1 := Fr.trans' (S := b :: Fw ++ l.list) (a := w) (by ((repeat' (first | (with_reducible assumption) | (with_reducible exact Fr.refl _ _) | (with_reducible refine Fr.drew ?_) | (with_reducible refine Fr.drewN ?_ _) | (with_reducible refine Fr.alloc ?_ _) | (with_reducible refine Fr.setCell ?_ ?_ _))); all_goals (first | (left; simp only [List.mem_cons, true_or, or_true]; done) | (left; simp only [List.mem_cons, List.mem_append, true_or, or_true]; done) | (right; simp only []; omega) | (right; simp; done) | (right; simp; omega) | (left; simp; done)))) f1 (fun q hq _ => by simp only [List.cons_append, List.mem_cons]; exact Or.inr hq); have HF := hid (show ∀ k ∈ F', k ∈ Fw ∨ w.heap.size < k from fun k hk => by rcases hF' k hk with q | q; exact Or.inl q; (simp only [World.size_alloc, World.size_drew] at q; exact Or.inr (by omega))); clear nin f1 hF'))
  cases d with
  | false =>
    go_wp2
    go_ret
    refine ⟨rfl, F', ?_, hx1.fr (S := []) (by ((repeat' (first | (with_reducible assumption) | (with_reducible exact Fr.refl _ _) | (with_reducible refine Fr.drew ?_) | (with_reducible refine Fr.drewN ?_ _) | (with_reducible refine Fr.alloc ?_ _) | (with_reducible refine Fr.setCell ?_ ?_ _))); all_goals (first | (left; simp only [List.mem_cons, true_or, or_true]; done) | (left; simp only [List.mem_cons, List.mem_append, true_or, or_true]; done) | (right; simp only []; omega) | (right; simp; done) | (right; simp; omega) | (left; simp; done)))) (by simp), (by ((repeat' (first | (with_reducible assumption) | (with_reducible apply MemAt.drew) | (with_reducible apply MemAt.drewN) | (with_reducible apply MemAt.alloc) | (with_reducible apply MemAt.setN))); all_goals (first | assumption | (simp only []; assumption) | (refine nl _ ?_; first | omega | (simp only []; omega) | (simp; omega))))), F1, HF.out⟩
    (refine At.to (by ((repeat' (first | (with_reducible assumption) | (with_reducible apply At.drew) | (with_reducible apply At.drewN) | (with_reducible refine At.newAt ?_; (simp; done)) | (with_reducible apply At.alloc) | (with_reducible apply At.set) | (with_reducible apply At.setOther))); all_goals (first | assumption | (apply Ne.symm; assumption) | omega | (simp only []; omega) | (simp; done) | (simp; omega)))) ?_; (first | rfl | (simp [inc]; done) | (simp [inc, IntWalk.i64_left]; done)))
  | true =>
    go_wp2_with fail
    refine (drop_done _ q bw F' hx1).mono ?_
    rintro r w2 ⟨rfl, f2⟩
    have hb1 := At.fr (b := b) (by ((repeat' (first | (with_reducible assumption) | (with_reducible apply At.drew) | (with_reducible apply At.drewN) | (with_reducible refine At.newAt ?_; (simp; done)) | (with_reducible apply At.alloc) | (with_reducible apply At.set) | (with_reducible apply At.setOther))); all_goals (first | assumption | (apply Ne.symm; assumption) | omega | (simp only []; omega) | (simp; done) | (simp; omega)))) f2 (by simp)
    have p1 := hb1.cell
    have g1 := hb1.frozen
    have lb1 := hb1.lt
    have h1 := MemAt.frl (l := l) (by ((repeat' (first | (with_reducible assumption) | (with_reducible apply MemAt.drew) | (with_reducible apply MemAt.drewN) | (with_reducible apply MemAt.alloc) | (with_reducible apply MemAt.setN))); all_goals (first | assumption | (simp only []; assumption) | (refine nl _ ?_; first | omega | (simp only []; omega) | (simp; omega))))) f2 (by simp)
    have hx2 := hx1.fr f2 (by simp)
    have F1 := Fr.sub (S := b :: Fw ++ l.list) (a := w) F1 f2 (by simp)
    clear f2
    go_wp2
    go_ret
    refine ⟨rfl, F', ?_, ?_, (by ((repeat' (first | (with_reducible assumption) | (with_reducible apply MemAt.drew) | (with_reducible apply MemAt.drewN) | (with_reducible apply MemAt.alloc) | (with_reducible apply MemAt.setN))); all_goals (first | assumption | (simp only []; assumption) | (refine nl _ ?_; first | omega | (simp only []; omega) | (simp; omega))))), ?_, HF.out⟩
    · (refine At.to (by ((repeat' (first | (with_reducible assumption) | (with_reducible apply At.drew) | (with_reducible apply At.drewN) | (with_reducible refine At.newAt ?_; (simp; done)) | (with_reducible apply At.alloc) | (with_reducible apply At.set) | (with_reducible apply At.setOther))); all_goals (first | assumption | (apply Ne.symm; assumption) | omega | (simp only []; omega) | (simp; done) | (simp; omega)))) ?_; (first | rfl | (simp [inc]; done) | (simp [inc, IntWalk.i64_left]; done)))
    · exact hx2.fr (S := [b]) (by ((repeat' (first | (with_reducible assumption) | (with_reducible exact Fr.refl _ _) | (with_reducible refine Fr.drew ?_) | (with_reducible refine Fr.drewN ?_ _) | (with_reducible refine Fr.alloc ?_ _) | (with_reducible refine Fr.setCell ?_ ?_ _))); all_goals (first | (left; simp only [List.mem_cons, true_or, or_true]; done) | (left; simp only [List.mem_cons, List.mem_append, true_or, or_true]; done) | (right; simp only []; omega) | (right; simp; done) | (right; simp; omega) | (left; simp; done)))) (fun k hk q => by simp only [List.mem_singleton] at q; subst q; rcases HF.out _ hk with q | q; exact n2 q; omega)
    · exact Fr.setB (Fr.setB (Fr.setB (Fr.setB (Fr.setB F1))))

theorem act1_access (e : Env) (w : World) (l : Loc) (m : Mem) (h : MemAt w l m) (x : Access) (bw : Nat) (Fw : List Nat) (hx : AccessAt w bw Fw x) (hd : ∀ k ∈ Fw, k ∉ l.list) (ok : x.Ok) (b : Nat) (v0 v1 v4 v5 v6 v7 : Value) (hb : At w b 154 #[v0, v1, .int .i64 1, .iface 44 (.pointer (some ⟨bw, 0, none⟩)), v4, v5, v6, v7]) (n1 : b ∉ l.list) (n2 : b ∉ Fw) :
    Calls Try.prog 63 #[.pointer (some ⟨b, 0, none⟩), .agg (e.arr l)] w fun r w' =>
      r = .returned (.bool false) ∧ Act1Post (fun w' F' => AccessAt w' bw F' (x.step e m).1) w w' b Fw l (x.step e m).2.1 (if (x.step e m).2.2 then #[v0, v1, .int .i64 2, .iface 44 (.pointer (some ⟨bw, 0, none⟩)), .int .i64 (x.step e m).1.out.e, .int .u64 (x.step e m).1.out.handle, .int .i64 (x.step e m).1.out.value, .int .i64 (x.step e m).1.out.stamp] else #[v0, v1, .int .i64 1, .iface 44 (.pointer (some ⟨bw, 0, none⟩)), v4, v5, v6, v7]) := by
  have p0 := hb.cell; have f0 := hb.frozen; have lb := hb.lt; have lm := h.hd.lt; have b0 := At.new w 30 (e.arr l); have c0 := b0.cell; have n0 := h.nin (Nat.le_refl w.heap.size); have nl : ∀ k, w.heap.size ≤ k → k ∉ l.list := fun k hk => h.nin hk
  have lx := hx.lt
  obtain ⟨X, hX⟩ : ∃ X, x.step e m = X := ⟨_, rfl⟩
  rw [hX]
  have HX := hid hX
  have LX := hid lx
  have HD := hid hd
  obtain ⟨q, m', d⟩ := X
  clear hX lx hd
  go_enter Try.func63, Try.ntmps63
  go_wp2_with fail
  go_region_held3 (fun w' => (∀ i, w'.cell? ⟨w.heap.size, i, none⟩ = (e.arr l)[i]?) ∧ w'.cell? ⟨b, 3, none⟩ = some (.iface 44 (.pointer (some ⟨bw, 0, none⟩)))) (((try dsimp only); (repeat' apply And.intro); all_goals (first | with_reducible exact b1.cell | with_reducible exact p1 | with_reducible assumption | (refine At.cell (t := 30) ?_; ((repeat' (first | (with_reducible assumption) | (with_reducible apply At.drew) | (with_reducible apply At.drewN) | (with_reducible refine At.newAt ?_; (simp; done)) | (with_reducible apply At.alloc) | (with_reducible apply At.set) | (with_reducible apply At.setOther))); all_goals (first | assumption | (apply Ne.symm; assumption) | omega | (simp only []; omega) | (simp; done) | (simp; omega)))) | (refine At.cells (by ((repeat' (first | (with_reducible assumption) | (with_reducible apply At.drew) | (with_reducible apply At.drewN) | (with_reducible refine At.newAt ?_; (simp; done)) | (with_reducible apply At.alloc) | (with_reducible apply At.set) | (with_reducible apply At.setOther))); all_goals (first | assumption | (apply Ne.symm; assumption) | omega | (simp only []; omega) | (simp; done) | (simp; omega)))) ?_; (first | rfl | (simp; done))) | (rw [World.cell?_setCell_other _ _ _ _ (by simp)]; assumption) | (refine (At.cell (by ((repeat' (first | (with_reducible assumption) | (with_reducible apply At.drew) | (with_reducible apply At.drewN) | (with_reducible refine At.newAt ?_; (simp; done)) | (with_reducible apply At.alloc) | (with_reducible apply At.set) | (with_reducible apply At.setOther))); all_goals (first | assumption | (apply Ne.symm; assumption) | omega | (simp only []; omega) | (simp; done) | (simp; omega)))) _).trans ?_; (simp; done)) | (go_keep; done)))) (first | (go_at_call 29; (try simp only [IntWalk.i64_left]); refine (access_any e _ l m (by ((repeat' (first | (with_reducible assumption) | (with_reducible apply MemAt.drew) | (with_reducible apply MemAt.drewN) | (with_reducible apply MemAt.alloc) | (with_reducible apply MemAt.setN))); all_goals (first | assumption | (simp only []; assumption) | (refine nl _ ?_; first | omega | (simp only []; omega) | (simp; omega))))) x bw Fw (hx.fr (S := []) (by ((repeat' (first | (with_reducible assumption) | (with_reducible exact Fr.refl _ _) | (with_reducible refine Fr.drew ?_) | (with_reducible refine Fr.drewN ?_ _) | (with_reducible refine Fr.alloc ?_ _) | (with_reducible refine Fr.setCell ?_ ?_ _))); all_goals (first | (left; simp only [List.mem_cons, true_or, or_true]; done) | (left; simp only [List.mem_cons, List.mem_append, true_or, or_true]; done) | (right; simp only []; omega) | (right; simp; done) | (right; simp; omega) | (left; simp; done)))) (by simp)) HD.out ok).mono ?_; rw [HX.out]; rintro r w1 ⟨F', rfl, hx1, h1, f1, hF'⟩; have nin : ∀ q, (q = b ∨ q = w.heap.size) → q ∉ Fw ++ l.list := (fun q hq hm => by rw [List.mem_append] at hm; rcases hq with rfl | rfl; (rcases hm with hm | hm; exact n2 hm; exact n1 hm); (rcases hm with hm | hm; (have := LX.out _ hm; omega); exact n0 hm)); have hb1 := At.fr (b := b) (by ((repeat' (first | (with_reducible assumption) | (with_reducible apply At.drew) | (with_reducible apply At.drewN) | (with_reducible refine At.newAt ?_; (simp; done)) | (with_reducible apply At.alloc) | (with_reducible apply At.set) | (with_reducible apply At.setOther))); all_goals (first | assumption | (apply Ne.symm; assumption) | omega | (simp only []; omega) | (simp; done) | (simp; omega)))) f1 (nin _ (Or.inl rfl)); have p1 := hb1.cell; have g1 := hb1.frozen; have lb1 := hb1.lt; have b1 := At.fr (b := w.heap.size) (t := 30) (vs := e.arr l) (by ((repeat' (first | (with_reducible assumption) | (with_reducible apply At.drew) | (with_reducible apply At.drewN) | (with_reducible refine At.newAt ?_; (simp; done)) | (with_reducible apply At.alloc) | (with_reducible apply At.set) | (with_reducible apply At.setOther))); all_goals (first | assumption | (apply Ne.symm; assumption) | omega | (simp only []; omega) | (simp; done) | (simp; omega)))) f1 (nin _ (Or.inr rfl)); have c1 := b1.cell; have le1 := b1.lt; have F1 := Fr.trans' (S := b :: Fw ++ l.list) (a := w) (by ((repeat' (first | (with_reducible assumption) | (with_reducible exact Fr.refl _ _) | (with_reducible refine Fr.drew ?_) | (with_reducible refine Fr.drewN ?_ _) | (with_reducible refine Fr.alloc ?_ _) | (with_reducible refine Fr.setCell ?_ ?_ _))); all_goals (first | (left; simp only [List.mem_cons, true_or, or_true]; done) | (left; simp only [List.mem_cons, List.mem_append, true_or, or_true]; done) | (right; simp only []; omega) | (right; simp; done) | (right; simp; omega) | (left; simp; done)))) f1 (fun q hq _ => by simp only [List.cons_append, List.mem_cons]; exact Or.inr hq); have HF := hid (show ∀ k ∈ F', k ∈ Fw ∨ w.heap.size < k from fun k hk => by rcases hF' k hk with q | q; exact Or.inl q; (simp only [World.size_alloc, World.size_drew] at q; exact Or.inr (by omega))); clear nin f1 hF'))
  cases d with
  | false =>
    go_wp2
    go_ret
    refine ⟨rfl, F', ?_, hx1.fr (S := []) (by ((repeat' (first | (with_reducible assumption) | (with_reducible exact Fr.refl _ _) | (with_reducible refine Fr.drew ?_) | (with_reducible refine Fr.drewN ?_ _) | (with_reducible refine Fr.alloc ?_ _) | (with_reducible refine Fr.setCell ?_ ?_ _))); all_goals (first | (left; simp only [List.mem_cons, true_or, or_true]; done) | (left; simp only [List.mem_cons, List.mem_append, true_or, or_true]; done) | (right; simp only []; omega) | (right; simp; done) | (right; simp; omega) | (left; simp; done)))) (by simp), (by ((repeat' (first | (with_reducible assumption) | (with_reducible apply MemAt.drew) | (with_reducible apply MemAt.drewN) | (with_reducible apply MemAt.alloc) | (with_reducible apply MemAt.setN))); all_goals (first | assumption | (simp only []; assumption) | (refine nl _ ?_; first | omega | (simp only []; omega) | (simp; omega))))), F1, HF.out⟩
    (refine At.to (by ((repeat' (first | (with_reducible assumption) | (with_reducible apply At.drew) | (with_reducible apply At.drewN) | (with_reducible refine At.newAt ?_; (simp; done)) | (with_reducible apply At.alloc) | (with_reducible apply At.set) | (with_reducible apply At.setOther))); all_goals (first | assumption | (apply Ne.symm; assumption) | omega | (simp only []; omega) | (simp; done) | (simp; omega)))) ?_; (first | rfl | (simp [inc]; done) | (simp [inc, IntWalk.i64_left]; done)))
  | true =>
    go_wp2_with fail
    refine (access_done _ q bw F' hx1).mono ?_
    rintro r w2 ⟨rfl, f2⟩
    have hb1 := At.fr (b := b) (by ((repeat' (first | (with_reducible assumption) | (with_reducible apply At.drew) | (with_reducible apply At.drewN) | (with_reducible refine At.newAt ?_; (simp; done)) | (with_reducible apply At.alloc) | (with_reducible apply At.set) | (with_reducible apply At.setOther))); all_goals (first | assumption | (apply Ne.symm; assumption) | omega | (simp only []; omega) | (simp; done) | (simp; omega)))) f2 (by simp)
    have p1 := hb1.cell
    have g1 := hb1.frozen
    have lb1 := hb1.lt
    have h1 := MemAt.frl (l := l) (by ((repeat' (first | (with_reducible assumption) | (with_reducible apply MemAt.drew) | (with_reducible apply MemAt.drewN) | (with_reducible apply MemAt.alloc) | (with_reducible apply MemAt.setN))); all_goals (first | assumption | (simp only []; assumption) | (refine nl _ ?_; first | omega | (simp only []; omega) | (simp; omega))))) f2 (by simp)
    have hx2 := hx1.fr f2 (by simp)
    have F1 := Fr.sub (S := b :: Fw ++ l.list) (a := w) F1 f2 (by simp)
    clear f2
    go_wp2
    go_ret
    refine ⟨rfl, F', ?_, ?_, (by ((repeat' (first | (with_reducible assumption) | (with_reducible apply MemAt.drew) | (with_reducible apply MemAt.drewN) | (with_reducible apply MemAt.alloc) | (with_reducible apply MemAt.setN))); all_goals (first | assumption | (simp only []; assumption) | (refine nl _ ?_; first | omega | (simp only []; omega) | (simp; omega))))), ?_, HF.out⟩
    · (refine At.to (by ((repeat' (first | (with_reducible assumption) | (with_reducible apply At.drew) | (with_reducible apply At.drewN) | (with_reducible refine At.newAt ?_; (simp; done)) | (with_reducible apply At.alloc) | (with_reducible apply At.set) | (with_reducible apply At.setOther))); all_goals (first | assumption | (apply Ne.symm; assumption) | omega | (simp only []; omega) | (simp; done) | (simp; omega)))) ?_; (first | rfl | (simp [inc]; done) | (simp [inc, IntWalk.i64_left]; done)))
    · exact hx2.fr (S := [b]) (by ((repeat' (first | (with_reducible assumption) | (with_reducible exact Fr.refl _ _) | (with_reducible refine Fr.drew ?_) | (with_reducible refine Fr.drewN ?_ _) | (with_reducible refine Fr.alloc ?_ _) | (with_reducible refine Fr.setCell ?_ ?_ _))); all_goals (first | (left; simp only [List.mem_cons, true_or, or_true]; done) | (left; simp only [List.mem_cons, List.mem_append, true_or, or_true]; done) | (right; simp only []; omega) | (right; simp; done) | (right; simp; omega) | (left; simp; done)))) (fun k hk q => by simp only [List.mem_singleton] at q; subst q; rcases HF.out _ hk with q | q; exact n2 q; omega)
    · exact Fr.setB (Fr.setB (Fr.setB (Fr.setB (Fr.setB F1))))

def Act.Ok (a : Act) (c : Cfg) : Prop := a.pc = 1 → DoerOk a.work c
theorem act_any (e : Env) (w : World) (l : Loc) (m : Mem) (h : MemAt w l m) (a : Act) (b : Nat) (F : List Nat) (hb : ActAt w b F a) (hd : ∀ x ∈ F, x ∉ l.list) (ok : a.Ok e.c) :
    Calls Try.prog 63 #[.pointer (some ⟨b, 0, none⟩), .agg (e.arr l)] w fun r w' =>
      ∃ F', r = .returned (.bool (a.step e m).2.2) ∧ ActAt w' b F' (a.step e m).1 ∧ MemAt w' l (a.step e m).2.1 ∧ Fr (F ++ l.list) w w' ∧ (∀ x ∈ F', x ∈ F ∨ w.heap.size ≤ x) := by
  obtain ⟨v, Fw, rfl, ha, hp, k1⟩ := hb
  have nb : b ∉ l.list := hd b (by simp)
  have nw : ∀ k ∈ Fw, k ∉ l.list := fun k hk => hd k (by simp [hk])
  have np : ∀ x ∈ Fw, x ∉ b :: l.list := fun x hx => by
    simp only [List.mem_cons, not_or]; exact ⟨fun e => k1 (e ▸ hx), nw x hx⟩
  have lb := ha.lt
  obtain ⟨pin, pc, work, ⟨o0, o1, o2, o3⟩⟩ := a
  by_cases c0 : pc = 0
  · subst c0
    refine (act0 e w l m h ⟨pin, 0, work, ⟨o0, o1, o2, o3⟩⟩ v b ha nb).mono ?_
    rintro r w' ⟨rfl, h1, h2, f⟩
    have es : Act.step ⟨pin, 0, work, ⟨o0, o1, o2, o3⟩⟩ e m = (⟨(pin.step e m).1, if (pin.step e m).2.2 then 1 else 0, work, ⟨o0, o1, o2, o3⟩⟩, (pin.step e m).2.1, false) := by
      simp only [Act.step, if_true]
      split <;> rfl
    rw [es]
    exact ⟨_, rfl, ⟨v, Fw, rfl, h1, hp.fr f np, k1⟩, h2, f.widen, fun x hx => Or.inl hx⟩
  by_cases c1 : pc = 1
  · subst c1
    have okd := ok rfl
    cases work with
    | alloc x =>
      obtain ⟨bw, rfl, hx⟩ := hp
      refine (act1_alloc e w l m h x bw Fw hx nw okd.ok b _ _ _ _ _ _ ha nb k1).mono ?_
      rintro r w' ⟨rfl, F', h1, hx1, h2, f, hF⟩
      have es : Act.step ⟨pin, 1, .alloc x, ⟨o0, o1, o2, o3⟩⟩ e m = (⟨pin, if (x.step e m).2.2 then 2 else 1, .alloc (x.step e m).1, if (x.step e m).2.2 then (x.step e m).1.out else ⟨o0, o1, o2, o3⟩⟩, (x.step e m).2.1, false) := by
        cases hdd : (x.step e m).2.2 <;> simp [Act.step, Doer.step, Doer.out, hdd]
      rw [es]
      refine ⟨b :: F', rfl, ⟨.iface 107 (.pointer (some ⟨bw, 0, none⟩)), F', rfl, ?_, ⟨bw, rfl, hx1⟩, fun q => ?_⟩, h2, f, fun q hq => ?_⟩
      · cases hdd : (x.step e m).2.2 with
        | true => rw [hdd, if_pos rfl] at h1; simpa [hdd] using h1
        | false => rw [hdd, if_neg (by decide)] at h1; simpa [hdd] using h1
      · rcases hF b q with q | q
        · exact k1 q
        · omega
      · simp only [List.mem_cons] at hq ⊢
        rcases hq with rfl | hq
        · exact Or.inl (Or.inl rfl)
        · rcases hF q hq with q | q
          · exact Or.inl (Or.inr q)
          · exact Or.inr (by omega)
    | drop x =>
      obtain ⟨bw, rfl, hx⟩ := hp
      refine (act1_drop e w l m h x bw Fw hx nw okd b _ _ _ _ _ _ ha nb k1).mono ?_
      rintro r w' ⟨rfl, F', h1, hx1, h2, f, hF⟩
      have es : Act.step ⟨pin, 1, .drop x, ⟨o0, o1, o2, o3⟩⟩ e m = (⟨pin, if (x.step e m).2.2 then 2 else 1, .drop (x.step e m).1, if (x.step e m).2.2 then (x.step e m).1.out else ⟨o0, o1, o2, o3⟩⟩, (x.step e m).2.1, false) := by
        cases hdd : (x.step e m).2.2 <;> simp [Act.step, Doer.step, Doer.out, hdd]
      rw [es]
      refine ⟨b :: F', rfl, ⟨.iface 116 (.pointer (some ⟨bw, 0, none⟩)), F', rfl, ?_, ⟨bw, rfl, hx1⟩, fun q => ?_⟩, h2, f, fun q hq => ?_⟩
      · cases hdd : (x.step e m).2.2 with
        | true => rw [hdd, if_pos rfl] at h1; simpa [hdd] using h1
        | false => rw [hdd, if_neg (by decide)] at h1; simpa [hdd] using h1
      · rcases hF b q with q | q
        · exact k1 q
        · omega
      · simp only [List.mem_cons] at hq ⊢
        rcases hq with rfl | hq
        · exact Or.inl (Or.inl rfl)
        · rcases hF q hq with q | q
          · exact Or.inl (Or.inr q)
          · exact Or.inr (by omega)
    | access x =>
      obtain ⟨bw, rfl, hx⟩ := hp
      refine (act1_access e w l m h x bw Fw hx nw okd b _ _ _ _ _ _ ha nb k1).mono ?_
      rintro r w' ⟨rfl, F', h1, hx1, h2, f, hF⟩
      have es : Act.step ⟨pin, 1, .access x, ⟨o0, o1, o2, o3⟩⟩ e m = (⟨pin, if (x.step e m).2.2 then 2 else 1, .access (x.step e m).1, if (x.step e m).2.2 then (x.step e m).1.out else ⟨o0, o1, o2, o3⟩⟩, (x.step e m).2.1, false) := by
        cases hdd : (x.step e m).2.2 <;> simp [Act.step, Doer.step, Doer.out, hdd]
      rw [es]
      refine ⟨b :: F', rfl, ⟨.iface 44 (.pointer (some ⟨bw, 0, none⟩)), F', rfl, ?_, ⟨bw, rfl, hx1⟩, fun q => ?_⟩, h2, f, fun q hq => ?_⟩
      · cases hdd : (x.step e m).2.2 with
        | true => rw [hdd, if_pos rfl] at h1; simpa [hdd] using h1
        | false => rw [hdd, if_neg (by decide)] at h1; simpa [hdd] using h1
      · rcases hF b q with q | q
        · exact k1 q
        · omega
      · simp only [List.mem_cons] at hq ⊢
        rcases hq with rfl | hq
        · exact Or.inl (Or.inl rfl)
        · rcases hF q hq with q | q
          · exact Or.inl (Or.inr q)
          · exact Or.inr (by omega)
  · refine (act2 e w l m h b pc _ _ _ _ _ _ _ ha nb c0 c1).mono ?_
    rintro r w' ⟨rfl, h2, f⟩
    have es : Act.step ⟨pin, pc, work, ⟨o0, o1, o2, o3⟩⟩ e m = (⟨pin, pc, work, ⟨o0, o1, o2, o3⟩⟩, pinOut e m, true) := by
      simp only [Act.step, if_neg c0, if_neg c1]
    rw [es]
    exact ⟨_, rfl, ⟨v, Fw, rfl, ha.fr f nb, hp.fr f nw, k1⟩, h2, f.mono (by intro k _ hk; simp only [List.cons_append, List.mem_cons, List.mem_append]; exact Or.inr (Or.inr hk)), fun x hx => Or.inl hx⟩
end Go.Proofs.Ytkgbifagledcaaa.FL
