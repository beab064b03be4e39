/-
  AccessDrops: who reads or lays while the object is let go is told that it is not there, or did it ahead of that. For every input; no condition.
-/
import Derived.Test.YtkgbifagledcaaaRows
import Derived.WalkKit
import Derived.ProofKit
import Derived.OpenShut
import Derived.ShutString
import Derived.ChangeOld
import Derived.Below
import Derived.Test.YtkgbifagledcaaaV
namespace Go.Proofs.Ytkgbifagledcaaa.FL
open Go Go.RowKit
theorem reached_facts (kind : Int) (hk : kind = 1 ∨ kind = 2) : (reached kind).all (fun s => decide (dropsStep (arenaEnv 4 4 2 20) dropsH true s ∈ reached kind) && decide (dropsStep (arenaEnv 4 4 2 20) dropsH false s ∈ reached kind) && (s.d1 || Drop.runOk (arenaEnv 4 4 2 20) 200 (Drop.new dropsH false) s.m)) = true := by
  rcases hk with rfl | rfl
  · kernel_rfl
  · kernel_rfl
theorem reached_step (kind : Int) (hk : kind = 1 ∨ kind = 2) : ∀ s ∈ reached kind, ∀ k, dropsStep (arenaEnv 4 4 2 20) dropsH k s ∈ reached kind := by
  have h := reached_facts kind hk
  rw [List.all_eq_true] at h
  intro s hs k
  have := h s hs
  simp only [Bool.and_eq_true, decide_eq_true_eq] at this
  cases k
  · exact this.1.2
  · exact this.1.1
theorem reached_ok (kind : Int) (hk : kind = 1 ∨ kind = 2) : ∀ s ∈ reached kind, s.d1 = false → Drop.runOk (arenaEnv 4 4 2 20) 200 (Drop.new dropsH false) s.m = true := by
  have h := reached_facts kind hk
  rw [List.all_eq_true] at h
  intro s hs hd
  have := h s hs
  rw [hd] at this
  simp only [Bool.and_eq_true, Bool.false_or] at this
  exact this.2
theorem reached_start (kind : Int) (hk : kind = 1 ∨ kind = 2) : drops0 kind ∈ reached kind := by
  rcases hk with rfl | rfl
  · exact of_decide_eq_true (by kernel_rfl)
  · exact of_decide_eq_true (by kernel_rfl)
end Go.Proofs.Ytkgbifagledcaaa.FL
namespace Go.Proofs.Ytkgbifagledcaaa.accessDrops
open Go Go.ChangeShapes Go.WideShapes Go.ChangeAt Go.RowKit
open Go.ChangeMaps (open_string shut_string)
set_option linter.unusedVariables false

theorem own : ownKnob Try.prog.godebug = none := by kernel_rfl
theorem laidOut : laidOutB Try.prog = true := by kernel_rfl

/-- WHAT THE WALK IS TOLD OF A SLICE OF INTEGERS THAT CAME IN: it is nil; or it leads to a row of 'cap' cells, the numbers 'zs' (the first 'len' are its elements, the rest its spare room), each fitting its kind. -/
def IsRow (k : IntKind) (w : World) (a : Option Addr) (len cap : Nat) (zs : List Int) : Prop :=
  (a = none ∧ len = 0 ∧ cap = 0 ∧ zs = []) ∨
  ∃ x, a = some x ∧ len ≤ cap ∧ cap ≤ maxLen ∧ zs.length = cap ∧ (∀ i, i < zs.length → w.cell? (x.add i) = some (.int k (zs.getD i 0))) ∧ ∀ n ∈ zs, (Lit.int k n).wf = true

/-! ### STEP 1: THE WALK: the Go text returns true, AND WRITES NOTHING THAT WAS THERE: 'Below w.heap.size w w'' (Derived/Below.lean: '.refl', '.alloc', '.drew', '.setCell' at a new block, '.trans'). Open each 'IsRow' by 'rcases' AHEAD of 'go_enter'; part every test ahead of the walk. -/
theorem walk (a0 : Int) (a1 : Option Addr) (len1 cap1 : Nat) (z1 : List Int) (w : World) (w0 : (Lit.int .i64 a0).wf = true) (w1 : IsRow .i64 w a1 len1 cap1 z1) :
    Calls Try.prog 4 #[.int .i64 a0, .slice a1 len1 cap1] w fun e w' => e = .returned (.bool true) ∧ Below w.heap.size w w' := by
  obtain ⟨kd, hkd⟩ : ∃ kd, 1 + a0 % 2 = kd := ⟨_, rfl⟩
  have hk : kd = 1 ∨ kd = 2 := by omega
  have hlen : (z1.take len1).length = len1 := by
    rcases w1 with ⟨_, rfl, _, rfl⟩ | ⟨x, _, hl, _, hz, _, _⟩
    · rfl
    · rw [List.length_take]; omega
  have hrow : ∀ k, k < len1 → ∃ b off, a1 = some ⟨b, off, none⟩ ∧ b < w.heap.size ∧ w.cell? ⟨b, off + k, none⟩ = some (.int .i64 ((z1.take len1).getD k 0)) := by
    intro k hk
    rcases w1 with ⟨_, rfl, _, _⟩ | ⟨x, rfl, hl, hm, hz, hcell, _⟩
    · omega
    · obtain ⟨b, off, spot⟩ := x
      have hspot : spot = none := by simpa [Addr.add] using World.cell?_spot (hcell 0 (by omega))
      subst hspot
      have hc := hcell k (by omega)
      have e1 : (z1.take len1).getD k 0 = z1.getD k 0 := by
        simp only [List.getD_eq_getElem?_getD, List.getElem?_take, if_pos hk]
      have hc' : w.cell? ⟨b, off + k, none⟩ = some (.int .i64 (z1.getD k 0)) := by
        rw [← hc]
        by_cases q : k = 0 <;> simp [Addr.add, q]
      refine ⟨b, off, rfl, ?_, by rw [e1]; exact hc'⟩
      rcases Nat.lt_or_ge b w.heap.size with h | h
      · exact h
      · simp [World.cell?, Array.getElem?_eq_none h] at hc'
  refine (FL.drops_walk (FL.arenaEnv 4 4 2 20) FL.dropsH (FL.reached kd) (FL.drops0 kd) (FL.arenaCfg 4 4 2 20).fresh (FL.arenaCfg 4 4 2 20).fresh a0 kd _ (FL.reached_step kd hk) (FL.reached_ok kd hk) (FL.reached_start kd hk) rfl rfl rfl rfl rfl hkd a1 len1 cap1 (z1.take len1) w hlen (FL.drops_law kd hk _) hrow).mono ?_
  rintro e w' ⟨rfl, f⟩
  exact ⟨rfl, f.below (Nat.le_refl _) (by simp)⟩

/-! ### THE ROW's STEP: WRITTEN OUT: LEAVE IT -/
set_option maxRecDepth 100000 in
theorem lifted (os : Os) (started : os.Started) (H : Type) (enc : TypeId × Value → H) :
    ReturnsInHanded {} Try.checked os 4 .any (Rows.accessDropsSpec.pre6 enc Try.prog Try.f4 Rows.accessDropsRow.domain false) (Rows.accessDropsSpec.post enc Try.prog Try.f4 false true false false) := by
  refine returnsInHanded_of_change (C := Try.checked) own started (by kernel_rfl) Try.func4
    (ChangeSpec.witness6 (enc := enc) (C := Try.checked) false ⟨#[], #[.int .i64 0, .slice none 0 0], []⟩ 8 (by kernel_rfl) (by kernel_rfl) (by kernel_rfl) (by kernel_rfl)) ?_
  intro W base args ds gs before hval0 hW hcnd _
  have hval : ∀ (j : Nat) t v, Try.f4.params[j]? = some t → args[j]? = some v → Value.okWide Try.prog W .any base t v := hval0
  have hW' := hW
  obtain ⟨p, q, hA0, hV, rfl, hfz, hnd⟩ := hW
  have hA : DataW.TrodAll enc Try.prog W 0 (fun _ => true) true Try.f4.params.toList args.toList ds p := hA0
  rw [Try.params4] at hA hval
  obtain ⟨v0, vs0, d0, ds0, p0, q0, hargs, rfl, rfl, h0, r0⟩ := trodAll_cons hA
  obtain ⟨v1, vs1, d1, ds1, p1, q1, rfl, rfl, rfl, h1, r1⟩ := trodAll_cons r0
  obtain ⟨rfl, rfl, rfl⟩ := trodAll_nil r1
  obtain rfl : args = #[v0, v1] := by cases args; simp_all
  obtain ⟨rfl, rfl⟩ := trodVars_none hV
  obtain ⟨a0, rfl, rfl, rfl, w0⟩ := open_int Try.underlying3 (hval 0 3 v0 rfl rfl) h0
  obtain ⟨a1, len1, cap1, rfl⟩ := okWide_slice Try.underlying22 (hval 1 22 v1 rfl rfl)
  have k1 := h1
  have lt1 : ∀ x ∈ p1, x.block < W.heap.size := by obtain ⟨m, hm⟩ := k1; exact DataW.trod_lt m _ _ _ hm
  obtain ⟨z1, w1⟩ : ∃ zs, IsRow .i64 W a1 len1 cap1 zs := by
    obtain ⟨fuel, hf⟩ := h1
    rcases open_ints Try.underlying22 Try.underlying3 (by kernel_rfl) hf with ⟨hcs, _⟩ | ⟨x, l, c, zs, hcs, _, hl, hm, hz, _, hcell, hwz⟩
    · simp [Value.cells] at hcs
      obtain ⟨rfl, rfl, rfl⟩ := hcs
      exact ⟨[], .inl ⟨rfl, rfl, rfl, rfl⟩⟩
    · simp [Value.cells] at hcs
      obtain ⟨rfl, rfl, rfl⟩ := hcs
      exact ⟨zs, .inr ⟨_, rfl, hl, hm, by simpa using hz, hcell, hwz⟩⟩
  clear hA0 hval0
  refine (walk a0 a1 len1 cap1 z1 W w0 w1).mono fun e W' ⟨he, bel⟩ => ?_
  subst he
  exact ⟨_, rfl, _, _, _, [], _, [], hW', trodAll_mk1 (shut_bool Try.underlying4 _), (trodAll_cons_mk (shut_int Try.underlying3 w0) (trodAll_cons_mk (Below.trod laidOut (by kernel_rfl) (of_decide_eq_true (by kernel_rfl)) k1 bel lt1) trodAll_mk0)), rfl, bel.frame _, fun h => by cases h⟩

set_option maxHeartbeats 4000000 in
theorem closed : joinedFacts Try.pinned.checked.prog 4 Try.f4 Rows.accessDropsSpec Rows.accessDropsRow = true := by
  unfold joinedFacts
  simp only [Bool.and_eq_true]
  repeat' apply And.intro
  all_goals (as_aux_lemma => kernel_rfl)
theorem over : Rows.accessDropsRow.holds Try.pinned (OpenSpec.ofChange Rows.accessDropsSpec) :=
  OpenClaim.holds_of_wide 4 Try.f4 rfl rfl rfl rfl rfl rfl rfl ⟨rfl, rfl, rfl, rfl, rfl⟩ rfl rfl rfl rfl rfl (by kernel_rfl) Try.func4 closed
    (of_decide_eq_true (by kernel_rfl)) (by unfold Func.isWrapper; first | (rw [if_pos (by decide +kernel)]; kernel_rfl) | (rw [if_neg (by decide +kernel)]; exact ⟨rfl, rfl⟩))
    (fun os started H enc _ => lifted os started H enc)

/-- ████ THE STATEMENT ████ -/
theorem proved : Rows.AccessDropsSaid := over
#print axioms proved
end Go.Proofs.Ytkgbifagledcaaa.accessDrops
