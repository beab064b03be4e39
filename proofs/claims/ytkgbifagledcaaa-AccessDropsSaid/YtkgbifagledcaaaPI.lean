/-
  Plain law: who reads or lays while the object is let go.
-/
import Derived.Test.YtkgbifagledcaaaPW
import Derived.KernelRfl
namespace Go.Proofs.Ytkgbifagledcaaa.FL
open Go Go.RowKit
set_option linter.unusedVariables false
set_option linter.unusedSimpArgs false

structure DS where
  a : Access
  m : Mem
  out : Done
  gone : Done
  d0 : Bool
  d1 : Bool
  deriving DecidableEq
def pickOf (picks : List Int) (i : Nat) : Bool := if i < picks.length ∧ i < 60 then decide (picks.getD i 0 % 2 = 1) else decide (i % 2 = 1)
def dropsStep (e : Env) (h : Int) (k : Bool) (s : DS) : DS :=
  if k then
    if s.d1 then s else let d := letGo e s.m h false; { s with m := d.2, gone := d.1, d1 := true }
  else
    if s.d0 then s else
      let r := s.a.step e s.m
      if r.2.2 then { s with a := r.1, m := r.2.1, d0 := true, out := r.1.out } else { s with a := r.1, m := r.2.1 }
def dropsLoop (e : Env) (h : Int) (picks : List Int) : Nat → Nat → DS → DS
  | 0, _, s => s
  | n + 1, i, s => if s.d0 && s.d1 then s else dropsLoop e h picks n (i + 1) (dropsStep e h (pickOf picks i) s)
def dropsEnd (s : DS) : Bool :=
  (s.d0 && s.d1 && decide (s.gone.e = 0)) && ((decide (s.out.e = 0) && decide (s.out.stamp < s.gone.stamp)) || (decide (s.out.e = 3) && decide (s.gone.stamp ≤ s.out.stamp)))
def drops0 (kind : Int) : DS :=
  let d := make (arenaEnv 4 4 2 20) (arenaCfg 4 4 2 20).fresh 2 false
  ⟨Access.new ⟨kind, d.1.handle, 0, 7, 0⟩ false, d.2, ⟨0, 0, 0, 0⟩, ⟨0, 0, 0, 0⟩, false, false⟩
def dropsH : Int := (make (arenaEnv 4 4 2 20) (arenaCfg 4 4 2 20).fresh 2 false).1.handle

theorem drops_all (e : Env) (h : Int) (R : List DS) (hc : ∀ s ∈ R, ∀ k, dropsStep e h k s ∈ R) (hf : ∀ s ∈ R, dropsEnd (dropsLoop e h [] 140 60 s) = true) (picks : List Int) :
    ∀ (n i : Nat) (s : DS), n + i = 60 → s ∈ R → dropsEnd (dropsLoop e h picks (n + 140) i s) = true
  | 0, i, s, hi, hs => by
    have : ∀ (n i : Nat) (s : DS), 60 ≤ i → dropsLoop e h picks n i s = dropsLoop e h [] n i s := by
      intro n
      induction n with
      | zero => intro i s _; rfl
      | succ n ih =>
        intro i s hi
        unfold dropsLoop
        rw [show pickOf picks i = pickOf [] i by unfold pickOf; rw [if_neg (by omega), if_neg (by omega)], ih _ _ (by omega)]
    rw [this _ _ _ (by omega)]
    obtain rfl : i = 60 := by omega
    exact hf s hs
  | n + 1, i, s, hi, hs => by
    rw [show n + 1 + 140 = (n + 140) + 1 by omega]
    unfold dropsLoop
    by_cases hd : (s.d0 && s.d1) = true
    · rw [if_pos hd]
      have := hf s hs
      unfold dropsLoop at this
      rw [if_pos hd] at this
      exact this
    · rw [if_neg hd]
      exact drops_all e h R hc hf picks n (i + 1) _ (by omega) (hc s hs _)

/-- All that can be reached, found by going n rounds. -/
def reach (e : Env) (h : Int) : Nat → List DS → List DS
  | 0, l => l
  | n + 1, l => reach e h n (l.foldl (fun r s => [dropsStep e h true s, dropsStep e h false s].foldl (fun r x => if x ∈ r then r else r ++ [x]) r) l)
def reached (kind : Int) : List DS := reach (arenaEnv 4 4 2 20) dropsH 12 [drops0 kind]
theorem reached_closed (kind : Int) (hk : (reached kind).all (fun s => decide (dropsStep (arenaEnv 4 4 2 20) dropsH true s ∈ reached kind) && decide (dropsStep (arenaEnv 4 4 2 20) dropsH false s ∈ reached kind) && dropsEnd (dropsLoop (arenaEnv 4 4 2 20) dropsH [] 140 60 s)) = true)
    (h0 : drops0 kind ∈ reached kind) (picks : List Int) : dropsEnd (dropsLoop (arenaEnv 4 4 2 20) dropsH picks 200 0 (drops0 kind)) = true := by
  rw [List.all_eq_true] at hk
  refine drops_all _ _ (reached kind) (fun s hs k => ?_) (fun s hs => ?_) picks 60 0 _ rfl h0
  · have := hk s hs
    simp only [Bool.and_eq_true, decide_eq_true_eq] at this
    cases k
    · exact this.1.2
    · exact this.1.1
  · have := hk s hs
    simp only [Bool.and_eq_true, decide_eq_true_eq] at this
    exact this.2
theorem drops_law (kind : Int) (hk : kind = 1 ∨ kind = 2) (picks : List Int) : dropsEnd (dropsLoop (arenaEnv 4 4 2 20) dropsH picks 200 0 (drops0 kind)) = true := by
  rcases hk with rfl | rfl
  · exact reached_closed 1 (by kernel_rfl) (of_decide_eq_true (by kernel_rfl)) picks
  · exact reached_closed 2 (by kernel_rfl) (of_decide_eq_true (by kernel_rfl)) picks
end Go.Proofs.Ytkgbifagledcaaa.FL
