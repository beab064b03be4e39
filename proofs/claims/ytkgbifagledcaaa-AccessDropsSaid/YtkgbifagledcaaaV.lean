/-
  Who reads or lays while the object is let go: the walk.
-/
import Derived.Test.YtkgbifagledcaaaU
import Derived.Test.YtkgbifagledcaaaT2
import Derived.Test.YtkgbifagledcaaaPI
namespace Go.Proofs.Ytkgbifagledcaaa.FL
open Go Go.RowKit
set_option linter.unusedVariables false
set_option linter.unusedSimpArgs false
set_option maxRecDepth 20000
set_option maxHeartbeats 4000000
attribute [local go_sem ↓] Go.wp_at_zero Go.wp_at_succ
attribute [local go_sem] fieldSlot0 fieldSlot1 fieldSlot2 fieldSlot3 fieldChunk0 fieldChunk1 fieldChunk3 fieldCell0
attribute [local go_sem] fieldDone0 fieldDone1 fieldDone2 fieldDone3

theorem and1_i64 (x : Int) : bits .and .i64 x 1 = x % 2 := by
  show IntKind.i64.wrap ((BitVec.ofInt 64 x &&& BitVec.ofInt 64 1).toNat : Int) = _
  rw [BitVec.toNat_and, show (BitVec.ofInt 64 1).toNat = 1 from by decide, Nat.and_one_is_mod, IntKind.wrap_i64]
  have := ofInt_toNat x
  omega
def DropsRel (w wr : World) (e : Env) (l : Loc) (b BE BO BG BD : Nat) (h0 : Int) (picks : List Int) (s0 : DS) (R : List DS) (k : Nat) : Prop :=
  ∃ s F, AccessAt wr b F s.a ∧ s.a.Ok ∧ MemAt wr l s.m ∧ At wr BE 30 (e.arr l) ∧ At wr BO 36 s.out.arr ∧ At wr BG 36 s.gone.arr ∧ At wr BD 46 #[.bool s.d0, .bool s.d1] ∧ Fr [] w wr ∧
    (∀ x ∈ F, x ∉ l.list ∧ w.heap.size ≤ x ∧ x ≠ BE ∧ x ≠ BO ∧ x ≠ BG ∧ x ≠ BD) ∧ dropsLoop e h0 picks (200 - k) k s = dropsLoop e h0 picks 200 0 s0 ∧ s ∈ R

theorem Fr.cellOld {S : List Nat} {w w' : World} (f : Fr S w w') {b o : Nat} (h : b < w.heap.size) (hs : b ∉ S := by simp) : w'.cell? ⟨b, o, none⟩ = w.cell? ⟨b, o, none⟩ := by
  have := f.block b h hs
  simp [World.cell?, this]
theorem drops_walk (e : Env) (h0 : Int) (R : List DS) (s0 : DS) (m0 m1 : Mem) (kind kd : Int) (D : Done × Mem)
    (hcl : ∀ s ∈ R, ∀ k, dropsStep e h0 k s ∈ R) (hok : ∀ s ∈ R, s.d1 = false → Drop.runOk e 200 (Drop.new h0 false) s.m = true) (hs0 : s0 ∈ R)
    (he : arenaEnv 4 4 2 20 = e) (hm0 : (arenaCfg 4 4 2 20).fresh = m0) (hD : make e m0 2 false = D) (hh : D.1.handle = h0) (hs : s0 = ⟨Access.new ⟨kd, h0, 0, 7, 0⟩ false, D.2, ⟨0, 0, 0, 0⟩, ⟨0, 0, 0, 0⟩, false, false⟩) (hkd : 1 + kind % 2 = kd)
    (a1 : Option Addr) (len1 cap1 : Nat) (picks : List Int) (w : World) (hlen : picks.length = len1) (hfin : dropsEnd (dropsLoop e h0 picks 200 0 s0) = true)
    (hrow : ∀ k, k < len1 → ∃ b off, a1 = some ⟨b, off, none⟩ ∧ b < w.heap.size ∧ w.cell? ⟨b, off + k, none⟩ = some (.int .i64 (picks.getD k 0))) :
    Calls Try.prog 4 #[.int .i64 kind, .slice a1 len1 cap1] w fun r w' => r = .returned (.bool true) ∧ Fr [] w w' := by
  have hc := fun w => arena_any 4 4 2 20 w (by decide +kernel) (by decide +kernel) (by decide +kernel) (by decide +kernel)
  rw [he] at hc
  rw [hm0] at hc
  have HC := hid hc
  have HD := hid hD
  have HH := hid hh
  have HS0 := hid hs
  have HCL := hid hcl
  have HOK := hid hok
  have HFIN := hid hfin
  have HROW := hid hrow
  have HLEN := hid hlen
  have HKD := hid hkd
  have hM0 := hs0
  have HM0 := hid hM0
  clear hc hD hh hs hcl hok hfin hrow hlen hkd hs0 hM0 he hm0
  have ek : wrap64 (1 + bits .and .i64 kind 1) = kd := by rw [and1_i64, wrap64_in _ (by omega) (by omega)]; exact HKD.out
  have EK := hid ek
  clear ek
  go_enter Try.func4, Try.ntmps4
  go_wp2_with fail
  refine (HC.out _).mono ?_
  rintro r wa ⟨l, rfl, hl, h, fa⟩
  have lm := h.hd.lt
  have nl : ∀ k, wa.heap.size ≤ k → k ∉ l.list := fun k hk => h.nin hk
  have HL := hid hl
  have FA := hid fa
  have sa := fa.size
  clear hl fa
  go_wp2_with fail
  refine (awake10_any _).mono ?_
  rintro r w1 ⟨rfl, f1⟩
  have b1 := At.fr (b := wa.heap.size) (t := 30) (vs := e.arr l) (by ((repeat' (first | (with_reducible assumption) | (with_reducible apply At.drew) | (with_reducible apply At.drewN) | (with_reducible refine At.newAt ?_; (simp; done)) | (with_reducible apply At.alloc) | (with_reducible apply At.set) | (with_reducible apply At.setOther))); all_goals (first | assumption | (apply Ne.symm; assumption) | omega | (simp only []; omega) | (simp; done) | (simp; omega)))) f1 (by simp)
  have c1 := b1.cell
  have le1 := b1.lt
  have h1 := MemAt.frl (l := l) (by ((repeat' (first | (with_reducible assumption) | (with_reducible apply MemAt.drew) | (with_reducible apply MemAt.drewN) | (with_reducible apply MemAt.alloc) | (with_reducible apply MemAt.setN))); all_goals (first | assumption | (simp only []; assumption) | (refine nl _ ?_; first | omega | (simp only []; omega) | (simp; omega))))) f1 (by simp)
  have F1 := Fr.sub (S := l.list) (a := wa) (by ((repeat' (first | (with_reducible assumption) | (with_reducible exact Fr.refl _ _) | (with_reducible refine Fr.drew ?_) | (with_reducible refine Fr.drewN ?_ _) | (with_reducible refine Fr.alloc ?_ _) | (with_reducible refine Fr.setCell ?_ ?_ _))); all_goals (first | (left; simp only [List.mem_cons, true_or, or_true]; done) | (left; simp only [List.mem_cons, List.mem_append, true_or, or_true]; done) | (right; simp only []; omega) | (right; simp; done) | (right; simp; omega) | (left; simp; done)))) f1 (by simp)
  clear f1
  go_wp2_with fail
  refine (make_any e _ l m0 (by ((repeat' (first | (with_reducible assumption) | (with_reducible apply MemAt.drew) | (with_reducible apply MemAt.drewN) | (with_reducible apply MemAt.alloc) | (with_reducible apply MemAt.setN))); all_goals (first | assumption | (simp only []; assumption) | (refine nl _ ?_; first | omega | (simp only []; omega) | (simp; omega))))) 2 false).mono ?_
  rw [HD.out]
  rintro r w2 ⟨rfl, h2, f1⟩
  have b1 := At.fr (b := wa.heap.size) (t := 30) (vs := e.arr l) (by ((repeat' (first | (with_reducible assumption) | (with_reducible apply At.drew) | (with_reducible apply At.drewN) | (with_reducible refine At.newAt ?_; (simp; done)) | (with_reducible apply At.alloc) | (with_reducible apply At.set) | (with_reducible apply At.setOther))); all_goals (first | assumption | (apply Ne.symm; assumption) | omega | (simp only []; omega) | (simp; done) | (simp; omega)))) f1 (nl _ (by omega))
  have c1 := b1.cell
  have le1 := b1.lt
  have F1 := Fr.sub (S := l.list) (a := wa) (by ((repeat' (first | (with_reducible assumption) | (with_reducible exact Fr.refl _ _) | (with_reducible refine Fr.drew ?_) | (with_reducible refine Fr.drewN ?_ _) | (with_reducible refine Fr.alloc ?_ _) | (with_reducible refine Fr.setCell ?_ ?_ _))); all_goals (first | (left; simp only [List.mem_cons, true_or, or_true]; done) | (left; simp only [List.mem_cons, List.mem_append, true_or, or_true]; done) | (right; simp only []; omega) | (right; simp; done) | (right; simp; omega) | (left; simp; done)))) f1 (by simp)
  clear f1
  have le2 := le1
  go_wp2_with fail
  (try simp only [IntWalk.i64_left])
  rw [EK.out, HH.out]
  refine (access_new _ ⟨kd, h0, 0, 7, 0⟩ false).mono ?_
  rintro r w3 ⟨b, rfl, hlt, hA, f1⟩
  have b1 := At.fr (b := wa.heap.size) (t := 30) (vs := e.arr l) (by ((repeat' (first | (with_reducible assumption) | (with_reducible apply At.drew) | (with_reducible apply At.drewN) | (with_reducible refine At.newAt ?_; (simp; done)) | (with_reducible apply At.alloc) | (with_reducible apply At.set) | (with_reducible apply At.setOther))); all_goals (first | assumption | (apply Ne.symm; assumption) | omega | (simp only []; omega) | (simp; done) | (simp; omega)))) f1 (by simp)
  have c1 := b1.cell
  have le1 := b1.lt
  have h1 := MemAt.frl (l := l) (by ((repeat' (first | (with_reducible assumption) | (with_reducible apply MemAt.drew) | (with_reducible apply MemAt.drewN) | (with_reducible apply MemAt.alloc) | (with_reducible apply MemAt.setN))); all_goals (first | assumption | (simp only []; assumption) | (refine nl _ ?_; first | omega | (simp only []; omega) | (simp; omega))))) f1 (by simp)
  have F1 := Fr.sub (S := l.list) (a := wa) (by ((repeat' (first | (with_reducible assumption) | (with_reducible exact Fr.refl _ _) | (with_reducible refine Fr.drew ?_) | (with_reducible refine Fr.drewN ?_ _) | (with_reducible refine Fr.alloc ?_ _) | (with_reducible refine Fr.setCell ?_ ?_ _))); all_goals (first | (left; simp only [List.mem_cons, true_or, or_true]; done) | (left; simp only [List.mem_cons, List.mem_append, true_or, or_true]; done) | (right; simp only []; omega) | (right; simp; done) | (right; simp; omega) | (left; simp; done)))) f1 (by simp)
  clear f1
  (try simp only [World.size_drew, World.size_alloc] at hlt)
  have hbw : wa.heap.size < b := by omega
  have hbl := hA.lt b (by simp)
  have nE := nl wa.heap.size (by omega)
  have nO := nl w3.heap.size (by omega)
  have nG := nl (w3.heap.size + 1) (by omega)
  have nD := nl (w3.heap.size + 1 + 1) (by omega)
  have HLN := hid (show ∀ x ∈ l.list, x < w.heap.size → x ∈ ([] : List Nat) from fun x hx hxw => by have := HL.out x hx; omega)
  have F1 := Fr.trans' (S := []) FA.out F1 HLN.out
  have bO := At.new w3 36 #[.int .i64 0, .int .u64 0, .int .i64 0, .int .i64 0]
  go_wp2
  go_loopw [12, 13] (fun i _ wr => ∃ k : Nat, k ≤ 200 ∧ i = .int .i64 (k : Int) ∧ DropsRel w wr e l b wa.heap.size w3.heap.size (w3.heap.size + 1) (w3.heap.size + 1 + 1) h0 picks s0 R k) (fun i _ _ => 200 - (intOf i).toNat)
  case atStart =>
    refine ⟨0, by omega, rfl, s0, [b], ?_, ?_, ?_, ?_, ?_, ?_, ?_, ?_, ?_, rfl, HM0.out⟩
    · rw [HS0.out]; exact hA.fr (S := []) (by ((repeat' (first | (with_reducible assumption) | (with_reducible exact Fr.refl _ _) | (with_reducible refine Fr.drew ?_) | (with_reducible refine Fr.drewN ?_ _) | (with_reducible refine Fr.alloc ?_ _) | (with_reducible refine Fr.setCell ?_ ?_ _))); all_goals (first | (left; simp only [List.mem_cons, true_or, or_true]; done) | (left; simp only [List.mem_cons, List.mem_append, true_or, or_true]; done) | (right; simp only []; omega) | (right; simp; done) | (right; simp; omega) | (left; simp; done)))) (by simp)
    · rw [HS0.out]; intro q; simp [Access.new] at q
    · rw [HS0.out]; ((repeat' (first | (with_reducible assumption) | (with_reducible apply MemAt.drew) | (with_reducible apply MemAt.drewN) | (with_reducible apply MemAt.alloc) | (with_reducible apply MemAt.setN))); all_goals (first | assumption | (simp only []; assumption) | (refine nl _ ?_; first | omega | (simp only []; omega) | (simp; omega))))
    · ((repeat' (first | (with_reducible assumption) | (with_reducible apply At.drew) | (with_reducible apply At.drewN) | (with_reducible refine At.newAt ?_; (simp; done)) | (with_reducible apply At.alloc) | (with_reducible apply At.set) | (with_reducible apply At.setOther))); all_goals (first | assumption | (apply Ne.symm; assumption) | omega | (simp only []; omega) | (simp; done) | (simp; omega)))
    · rw [HS0.out]; ((repeat' (first | (with_reducible assumption) | (with_reducible apply At.drew) | (with_reducible apply At.drewN) | (with_reducible refine At.newAt ?_; (simp; done)) | (with_reducible apply At.alloc) | (with_reducible apply At.set) | (with_reducible apply At.setOther))); all_goals (first | assumption | (apply Ne.symm; assumption) | omega | (simp only []; omega) | (simp; done) | (simp; omega)))
    · rw [HS0.out]; ((repeat' (first | (with_reducible assumption) | (with_reducible apply At.drew) | (with_reducible apply At.drewN) | (with_reducible refine At.newAt ?_; (simp; done)) | (with_reducible apply At.alloc) | (with_reducible apply At.set) | (with_reducible apply At.setOther))); all_goals (first | assumption | (apply Ne.symm; assumption) | omega | (simp only []; omega) | (simp; done) | (simp; omega)))
    · rw [HS0.out]; ((repeat' (first | (with_reducible assumption) | (with_reducible apply At.drew) | (with_reducible apply At.drewN) | (with_reducible refine At.newAt ?_; (simp; done)) | (with_reducible apply At.alloc) | (with_reducible apply At.set) | (with_reducible apply At.setOther))); all_goals (first | assumption | (apply Ne.symm; assumption) | omega | (simp only []; omega) | (simp; done) | (simp; omega)))
    · ((repeat' (first | (with_reducible assumption) | (with_reducible exact Fr.refl _ _) | (with_reducible refine Fr.drew ?_) | (with_reducible refine Fr.drewN ?_ _) | (with_reducible refine Fr.alloc ?_ _) | (with_reducible refine Fr.setCell ?_ ?_ _))); all_goals (first | (left; simp only [List.mem_cons, true_or, or_true]; done) | (left; simp only [List.mem_cons, List.mem_append, true_or, or_true]; done) | (right; simp only []; omega) | (right; simp; done) | (right; simp; omega) | (left; simp; done)))
    · intro x hx; simp only [List.mem_singleton] at hx; subst hx; exact ⟨nl x (by omega), by omega, by omega, by omega, by omega, by omega⟩
  case round =>
    obtain ⟨k, hk, rfl, s, F, hA, ok, h1, bE, bO, bG, bD, F1, hF, hrun, hmem⟩ := hrel
    have cE := bE.cell
    have lE := bE.lt
    have lD := bD.lt
    have HF := hid hF
    have HRUN := hid hrun
    have OK := hid ok
    have HM := hid hmem
    clear hF hrun ok hmem
    by_cases hex : 200 ≤ k ∨ (s.d0 && s.d1) = true
    · have HE := hid (show dropsEnd s = true by
        have hr := HRUN.out
        have : dropsLoop e h0 picks (200 - k) k s = s := by
          rcases hex with q | q
          · rw [show 200 - k = 0 by omega]; rfl
          · cases hn : 200 - k with
            | zero => rfl
            | succ n => rw [dropsLoop, if_pos q]
        rw [this] at hr
        rw [hr]; exact HFIN.out)
      clear hex
      have he := HE.out
      unfold dropsEnd at he
      simp only [Bool.and_eq_true, Bool.or_eq_true, decide_eq_true_eq] at he
      obtain ⟨⟨⟨hd0, hd1⟩, hg⟩, hor⟩ := he
      have bD' : At wr (w3.heap.size + 1 + 1) 46 #[.bool true, .bool true] := by have q := bD; rw [hd0, hd1] at q; exact q
      have cD := bD'.cell
      have gD := bD'.frozen
      have cO := bO.cell
      have gO := bO.frozen
      have cG := bG.cell
      have gG := bG.frozen
      have HD0 := hid hd0
      have HD1 := hid hd1
      clear hd0 hd1
      have gn : (s.gone.e != 0) = false := by simpa using hg
      clear hg
      rcases hor with ⟨o1, o2⟩ | ⟨o1, o2⟩
      · have e1 : (s.out.e == 0) = true := by simpa using o1
        have e2 : decide (s.out.stamp < s.gone.stamp) = true := by simpa using o2
        clear o1 o2
        go_wp2
        all_goals
          go_ret
          exact ⟨rfl, by ((repeat' (first | (with_reducible assumption) | (with_reducible exact Fr.refl _ _) | (with_reducible refine Fr.drew ?_) | (with_reducible refine Fr.drewN ?_ _) | (with_reducible refine Fr.alloc ?_ _) | (with_reducible refine Fr.setCell ?_ ?_ _))); all_goals (first | (left; simp only [List.mem_cons, true_or, or_true]; done) | (left; simp only [List.mem_cons, List.mem_append, true_or, or_true]; done) | (right; simp only []; omega) | (right; simp; done) | (right; simp; omega) | (left; simp; done)))⟩
      · have e1 : (s.out.e == 0) = false := by simp; omega
        have e2 : (s.out.e == 3) = true := by simpa using o1
        have e3 : decide (s.gone.stamp ≤ s.out.stamp) = true := by simpa using o2
        clear o1 o2
        go_wp2
        all_goals
          go_ret
          exact ⟨rfl, by ((repeat' (first | (with_reducible assumption) | (with_reducible exact Fr.refl _ _) | (with_reducible refine Fr.drew ?_) | (with_reducible refine Fr.drewN ?_ _) | (with_reducible refine Fr.alloc ?_ _) | (with_reducible refine Fr.setCell ?_ ?_ _))); all_goals (first | (left; simp only [List.mem_cons, true_or, or_true]; done) | (left; simp only [List.mem_cons, List.mem_append, true_or, or_true]; done) | (right; simp only []; omega) | (right; simp; done) | (right; simp; omega) | (left; simp; done)))⟩
    · have hk2 : k < 200 := by omega
      cases hd0 : s.d0 with
      | true =>
        cases hd1 : s.d1 with
        | true => exact absurd (Or.inr (by rw [hd0, hd1]; rfl)) hex
        | false =>
          clear hex
          have bD' : At wr (w3.heap.size + 1 + 1) 46 #[.bool true, .bool false] := by have q := bD; rw [hd0, hd1] at q; exact q
          have cD := bD'.cell
          have gD := bD'.frozen
          have cO := bO.cell
          have gO := bO.frozen
          have cG := bG.cell
          have gG := bG.frozen
          have HD0 := hid hd0
          have HD1 := hid hd1
          clear hd0 hd1
          cases hp : pickOf picks k with
          | true =>
            by_cases hA1 : k < len1 ∧ k < 60
            · obtain ⟨ba, off, rfl, hba, hc⟩ := HROW.out k hA1.1
              have hc' : wr.cell? ⟨ba, off + k, none⟩ = some (.int .i64 (picks.getD k 0)) := by
                rw [← hc]; exact Fr.cellOld F1 hba
              obtain ⟨v, hv⟩ : ∃ v, picks.getD k 0 = v := ⟨_, rfl⟩
              rw [hv] at hc'
              have HV := hid hv
              clear hv
              have HA1 := hid hA1
              have i1 : (k : Int) < len1 := by omega
              have i2 : (k : Int) < 60 := by omega
              clear hA1 hc
              have HP := hid hp
              have e1 : bits .and .i64 v 1 = 1 := by
                have := HP.out
                unfold pickOf at this
                rw [if_pos ⟨by rw [HLEN.out]; exact HA1.out.1, HA1.out.2⟩, HV.out] at this
                simp only [decide_eq_true_eq] at this
                rw [and1_i64]; omega
              clear hp
              have HRUN' : Hid (dropsLoop e h0 picks (200 - (k + 1)) (k + 1) (dropsStep e h0 true s) = dropsLoop e h0 picks 200 0 s0) := hid (by
                rw [← HRUN.out, show 200 - k = (200 - (k + 1)) + 1 by omega, dropsLoop, if_neg (by rw [HD0.out, HD1.out]; decide), HP.out])
              have HM' : Hid (dropsStep e h0 true s ∈ R) := hid (HCL.out s HM.out true)
              have ES := hid (show dropsStep e h0 true s = { s with m := (letGo e s.m h0 false).2, gone := (letGo e s.m h0 false).1, d1 := true } by unfold dropsStep; simp only [if_true, HD1.out, Bool.false_eq_true, if_false])
              go_wp2_with fail
              refine (letGo_any e _ l s.m (by ((repeat' (first | (with_reducible assumption) | (with_reducible apply MemAt.drew) | (with_reducible apply MemAt.drewN) | (with_reducible apply MemAt.alloc) | (with_reducible apply MemAt.setN))); all_goals (first | assumption | (simp only []; assumption) | (refine nl _ ?_; first | omega | (simp only []; omega) | (simp; omega))))) h0 false (HOK.out s HM.out HD1.out)).mono ?_
              rintro r w1 ⟨rfl, h1', f1⟩
              have bE := At.fr (b := wa.heap.size) (t := 30) (vs := e.arr l) (by ((repeat' (first | (with_reducible assumption) | (with_reducible apply At.drew) | (with_reducible apply At.drewN) | (with_reducible refine At.newAt ?_; (simp; done)) | (with_reducible apply At.alloc) | (with_reducible apply At.set) | (with_reducible apply At.setOther))); all_goals (first | assumption | (apply Ne.symm; assumption) | omega | (simp only []; omega) | (simp; done) | (simp; omega)))) f1 nE
              have bO := At.fr (b := w3.heap.size) (t := 36) (vs := s.out.arr) (by ((repeat' (first | (with_reducible assumption) | (with_reducible apply At.drew) | (with_reducible apply At.drewN) | (with_reducible refine At.newAt ?_; (simp; done)) | (with_reducible apply At.alloc) | (with_reducible apply At.set) | (with_reducible apply At.setOther))); all_goals (first | assumption | (apply Ne.symm; assumption) | omega | (simp only []; omega) | (simp; done) | (simp; omega)))) f1 nO
              have bG := At.fr (b := (w3.heap.size + 1)) (t := 36) (vs := s.gone.arr) (by ((repeat' (first | (with_reducible assumption) | (with_reducible apply At.drew) | (with_reducible apply At.drewN) | (with_reducible refine At.newAt ?_; (simp; done)) | (with_reducible apply At.alloc) | (with_reducible apply At.set) | (with_reducible apply At.setOther))); all_goals (first | assumption | (apply Ne.symm; assumption) | omega | (simp only []; omega) | (simp; done) | (simp; omega)))) f1 nG
              have bD := At.fr (b := (w3.heap.size + 1 + 1)) (t := 46) (vs := #[.bool true, .bool false]) (by ((repeat' (first | (with_reducible assumption) | (with_reducible apply At.drew) | (with_reducible apply At.drewN) | (with_reducible refine At.newAt ?_; (simp; done)) | (with_reducible apply At.alloc) | (with_reducible apply At.set) | (with_reducible apply At.setOther))); all_goals (first | assumption | (apply Ne.symm; assumption) | omega | (simp only []; omega) | (simp; done) | (simp; omega)))) f1 nD
              have hA1 := AccessAt.fr (hA.fr (S := []) (by ((repeat' (first | (with_reducible assumption) | (with_reducible exact Fr.refl _ _) | (with_reducible refine Fr.drew ?_) | (with_reducible refine Fr.drewN ?_ _) | (with_reducible refine Fr.alloc ?_ _) | (with_reducible refine Fr.setCell ?_ ?_ _))); all_goals (first | (left; simp only [List.mem_cons, true_or, or_true]; done) | (left; simp only [List.mem_cons, List.mem_append, true_or, or_true]; done) | (right; simp only []; omega) | (right; simp; done) | (right; simp; omega) | (left; simp; done)))) (by simp)) f1 (fun x hx => (HF.out x hx).1)
              have F2 := Fr.trans' (S := []) (a := w) (by ((repeat' (first | (with_reducible assumption) | (with_reducible exact Fr.refl _ _) | (with_reducible refine Fr.drew ?_) | (with_reducible refine Fr.drewN ?_ _) | (with_reducible refine Fr.alloc ?_ _) | (with_reducible refine Fr.setCell ?_ ?_ _))); all_goals (first | (left; simp only [List.mem_cons, true_or, or_true]; done) | (left; simp only [List.mem_cons, List.mem_append, true_or, or_true]; done) | (right; simp only []; omega) | (right; simp; done) | (right; simp; omega) | (left; simp; done)))) f1 HLN.out
              have cE := bE.cell
              have lE := bE.lt
              have lD := bD.lt
              have cO := bO.cell
              have cG := bG.cell
              have gG := bG.frozen
              have cD := bD.cell
              have gD := bD.frozen
              clear f1
              go_wp2
              go_roundw
              case rel =>
                refine ⟨k + 1, by omega, by simp, dropsStep e h0 true s, F, ?_, ?_, ?_, ?_, ?_, ?_, ?_, ?_, HF.out, HRUN'.out, HM'.out⟩
                · rw [ES.out]; exact hA1.fr (S := [(w3.heap.size + 1), (w3.heap.size + 1 + 1)]) (by ((repeat' (first | (with_reducible assumption) | (with_reducible exact Fr.refl _ _) | (with_reducible refine Fr.drew ?_) | (with_reducible refine Fr.drewN ?_ _) | (with_reducible refine Fr.alloc ?_ _) | (with_reducible refine Fr.setCell ?_ ?_ _))); all_goals (first | (left; simp only [List.mem_cons, true_or, or_true]; done) | (left; simp only [List.mem_cons, List.mem_append, true_or, or_true]; done) | (right; simp only []; omega) | (right; simp; done) | (right; simp; omega) | (left; simp; done)))) (fun x hx q => by simp only [List.mem_cons, List.not_mem_nil, or_false] at q; have := (HF.out x hx).2; omega)
                · rw [ES.out]; exact OK.out
                · rw [ES.out]; ((repeat' (first | (with_reducible assumption) | (with_reducible apply MemAt.drew) | (with_reducible apply MemAt.drewN) | (with_reducible apply MemAt.alloc) | (with_reducible apply MemAt.setN))); all_goals (first | assumption | (simp only []; assumption) | (refine nl _ ?_; first | omega | (simp only []; omega) | (simp; omega))))
                · ((repeat' (first | (with_reducible assumption) | (with_reducible apply At.drew) | (with_reducible apply At.drewN) | (with_reducible refine At.newAt ?_; (simp; done)) | (with_reducible apply At.alloc) | (with_reducible apply At.set) | (with_reducible apply At.setOther))); all_goals (first | assumption | (apply Ne.symm; assumption) | omega | (simp only []; omega) | (simp; done) | (simp; omega)))
                · rw [ES.out]; ((repeat' (first | (with_reducible assumption) | (with_reducible apply At.drew) | (with_reducible apply At.drewN) | (with_reducible refine At.newAt ?_; (simp; done)) | (with_reducible apply At.alloc) | (with_reducible apply At.set) | (with_reducible apply At.setOther))); all_goals (first | assumption | (apply Ne.symm; assumption) | omega | (simp only []; omega) | (simp; done) | (simp; omega)))
                · rw [ES.out]; (refine At.to (by ((repeat' (first | (with_reducible assumption) | (with_reducible apply At.drew) | (with_reducible apply At.drewN) | (with_reducible refine At.newAt ?_; (simp; done)) | (with_reducible apply At.alloc) | (with_reducible apply At.set) | (with_reducible apply At.setOther))); all_goals (first | assumption | (apply Ne.symm; assumption) | omega | (simp only []; omega) | (simp; done) | (simp; omega)))) ?_; (first | rfl | (simp [inc]; done) | (simp [inc, IntWalk.i64_left]; done)))
                · rw [ES.out, HD0.out]; (refine At.to (by ((repeat' (first | (with_reducible assumption) | (with_reducible apply At.drew) | (with_reducible apply At.drewN) | (with_reducible refine At.newAt ?_; (simp; done)) | (with_reducible apply At.alloc) | (with_reducible apply At.set) | (with_reducible apply At.setOther))); all_goals (first | assumption | (apply Ne.symm; assumption) | omega | (simp only []; omega) | (simp; done) | (simp; omega)))) ?_; (first | rfl | (simp [inc]; done) | (simp [inc, IntWalk.i64_left]; done)))
                · ((repeat' (first | (with_reducible assumption) | (with_reducible exact Fr.refl _ _) | (with_reducible refine Fr.drew ?_) | (with_reducible refine Fr.drewN ?_ _) | (with_reducible refine Fr.alloc ?_ _) | (with_reducible refine Fr.setCell ?_ ?_ _))); all_goals (first | (left; simp only [List.mem_cons, true_or, or_true]; done) | (left; simp only [List.mem_cons, List.mem_append, true_or, or_true]; done) | (right; simp only []; omega) | (right; simp; done) | (right; simp; omega) | (left; simp; done)))
              case measure => simp [intOf]; omega
            · have HA1 := hid hA1
              have dAB : (len1 : Int) ≤ k ∨ ((k : Int) < len1 ∧ (60 : Int) ≤ k) := by omega
              clear hA1
              rcases dAB with dA | ⟨dA, dB⟩
              all_goals
                have HP := hid hp
                have e1 : bits .and .i64 (k : Int) 1 = 1 := by
                  have := HP.out
                  unfold pickOf at this
                  rw [if_neg (by rw [HLEN.out]; exact HA1.out)] at this
                  simp only [decide_eq_true_eq] at this
                  rw [and1_i64]; omega
                clear hp
                have HRUN' : Hid (dropsLoop e h0 picks (200 - (k + 1)) (k + 1) (dropsStep e h0 true s) = dropsLoop e h0 picks 200 0 s0) := hid (by
                  rw [← HRUN.out, show 200 - k = (200 - (k + 1)) + 1 by omega, dropsLoop, if_neg (by rw [HD0.out, HD1.out]; decide), HP.out])
                have HM' : Hid (dropsStep e h0 true s ∈ R) := hid (HCL.out s HM.out true)
                have ES := hid (show dropsStep e h0 true s = { s with m := (letGo e s.m h0 false).2, gone := (letGo e s.m h0 false).1, d1 := true } by unfold dropsStep; simp only [if_true, HD1.out, Bool.false_eq_true, if_false])
                go_wp2_with fail
                refine (letGo_any e _ l s.m (by ((repeat' (first | (with_reducible assumption) | (with_reducible apply MemAt.drew) | (with_reducible apply MemAt.drewN) | (with_reducible apply MemAt.alloc) | (with_reducible apply MemAt.setN))); all_goals (first | assumption | (simp only []; assumption) | (refine nl _ ?_; first | omega | (simp only []; omega) | (simp; omega))))) h0 false (HOK.out s HM.out HD1.out)).mono ?_
                rintro r w1 ⟨rfl, h1', f1⟩
                have bE := At.fr (b := wa.heap.size) (t := 30) (vs := e.arr l) (by ((repeat' (first | (with_reducible assumption) | (with_reducible apply At.drew) | (with_reducible apply At.drewN) | (with_reducible refine At.newAt ?_; (simp; done)) | (with_reducible apply At.alloc) | (with_reducible apply At.set) | (with_reducible apply At.setOther))); all_goals (first | assumption | (apply Ne.symm; assumption) | omega | (simp only []; omega) | (simp; done) | (simp; omega)))) f1 nE
                have bO := At.fr (b := w3.heap.size) (t := 36) (vs := s.out.arr) (by ((repeat' (first | (with_reducible assumption) | (with_reducible apply At.drew) | (with_reducible apply At.drewN) | (with_reducible refine At.newAt ?_; (simp; done)) | (with_reducible apply At.alloc) | (with_reducible apply At.set) | (with_reducible apply At.setOther))); all_goals (first | assumption | (apply Ne.symm; assumption) | omega | (simp only []; omega) | (simp; done) | (simp; omega)))) f1 nO
                have bG := At.fr (b := (w3.heap.size + 1)) (t := 36) (vs := s.gone.arr) (by ((repeat' (first | (with_reducible assumption) | (with_reducible apply At.drew) | (with_reducible apply At.drewN) | (with_reducible refine At.newAt ?_; (simp; done)) | (with_reducible apply At.alloc) | (with_reducible apply At.set) | (with_reducible apply At.setOther))); all_goals (first | assumption | (apply Ne.symm; assumption) | omega | (simp only []; omega) | (simp; done) | (simp; omega)))) f1 nG
                have bD := At.fr (b := (w3.heap.size + 1 + 1)) (t := 46) (vs := #[.bool true, .bool false]) (by ((repeat' (first | (with_reducible assumption) | (with_reducible apply At.drew) | (with_reducible apply At.drewN) | (with_reducible refine At.newAt ?_; (simp; done)) | (with_reducible apply At.alloc) | (with_reducible apply At.set) | (with_reducible apply At.setOther))); all_goals (first | assumption | (apply Ne.symm; assumption) | omega | (simp only []; omega) | (simp; done) | (simp; omega)))) f1 nD
                have hA1 := AccessAt.fr (hA.fr (S := []) (by ((repeat' (first | (with_reducible assumption) | (with_reducible exact Fr.refl _ _) | (with_reducible refine Fr.drew ?_) | (with_reducible refine Fr.drewN ?_ _) | (with_reducible refine Fr.alloc ?_ _) | (with_reducible refine Fr.setCell ?_ ?_ _))); all_goals (first | (left; simp only [List.mem_cons, true_or, or_true]; done) | (left; simp only [List.mem_cons, List.mem_append, true_or, or_true]; done) | (right; simp only []; omega) | (right; simp; done) | (right; simp; omega) | (left; simp; done)))) (by simp)) f1 (fun x hx => (HF.out x hx).1)
                have F2 := Fr.trans' (S := []) (a := w) (by ((repeat' (first | (with_reducible assumption) | (with_reducible exact Fr.refl _ _) | (with_reducible refine Fr.drew ?_) | (with_reducible refine Fr.drewN ?_ _) | (with_reducible refine Fr.alloc ?_ _) | (with_reducible refine Fr.setCell ?_ ?_ _))); all_goals (first | (left; simp only [List.mem_cons, true_or, or_true]; done) | (left; simp only [List.mem_cons, List.mem_append, true_or, or_true]; done) | (right; simp only []; omega) | (right; simp; done) | (right; simp; omega) | (left; simp; done)))) f1 HLN.out
                have cE := bE.cell
                have lE := bE.lt
                have lD := bD.lt
                have cO := bO.cell
                have cG := bG.cell
                have gG := bG.frozen
                have cD := bD.cell
                have gD := bD.frozen
                clear f1
                go_wp2
                go_roundw
                case rel =>
                  refine ⟨k + 1, by omega, by simp, dropsStep e h0 true s, F, ?_, ?_, ?_, ?_, ?_, ?_, ?_, ?_, HF.out, HRUN'.out, HM'.out⟩
                  · rw [ES.out]; exact hA1.fr (S := [(w3.heap.size + 1), (w3.heap.size + 1 + 1)]) (by ((repeat' (first | (with_reducible assumption) | (with_reducible exact Fr.refl _ _) | (with_reducible refine Fr.drew ?_) | (with_reducible refine Fr.drewN ?_ _) | (with_reducible refine Fr.alloc ?_ _) | (with_reducible refine Fr.setCell ?_ ?_ _))); all_goals (first | (left; simp only [List.mem_cons, true_or, or_true]; done) | (left; simp only [List.mem_cons, List.mem_append, true_or, or_true]; done) | (right; simp only []; omega) | (right; simp; done) | (right; simp; omega) | (left; simp; done)))) (fun x hx q => by simp only [List.mem_cons, List.not_mem_nil, or_false] at q; have := (HF.out x hx).2; omega)
                  · rw [ES.out]; exact OK.out
                  · rw [ES.out]; ((repeat' (first | (with_reducible assumption) | (with_reducible apply MemAt.drew) | (with_reducible apply MemAt.drewN) | (with_reducible apply MemAt.alloc) | (with_reducible apply MemAt.setN))); all_goals (first | assumption | (simp only []; assumption) | (refine nl _ ?_; first | omega | (simp only []; omega) | (simp; omega))))
                  · ((repeat' (first | (with_reducible assumption) | (with_reducible apply At.drew) | (with_reducible apply At.drewN) | (with_reducible refine At.newAt ?_; (simp; done)) | (with_reducible apply At.alloc) | (with_reducible apply At.set) | (with_reducible apply At.setOther))); all_goals (first | assumption | (apply Ne.symm; assumption) | omega | (simp only []; omega) | (simp; done) | (simp; omega)))
                  · rw [ES.out]; ((repeat' (first | (with_reducible assumption) | (with_reducible apply At.drew) | (with_reducible apply At.drewN) | (with_reducible refine At.newAt ?_; (simp; done)) | (with_reducible apply At.alloc) | (with_reducible apply At.set) | (with_reducible apply At.setOther))); all_goals (first | assumption | (apply Ne.symm; assumption) | omega | (simp only []; omega) | (simp; done) | (simp; omega)))
                  · rw [ES.out]; (refine At.to (by ((repeat' (first | (with_reducible assumption) | (with_reducible apply At.drew) | (with_reducible apply At.drewN) | (with_reducible refine At.newAt ?_; (simp; done)) | (with_reducible apply At.alloc) | (with_reducible apply At.set) | (with_reducible apply At.setOther))); all_goals (first | assumption | (apply Ne.symm; assumption) | omega | (simp only []; omega) | (simp; done) | (simp; omega)))) ?_; (first | rfl | (simp [inc]; done) | (simp [inc, IntWalk.i64_left]; done)))
                  · rw [ES.out, HD0.out]; (refine At.to (by ((repeat' (first | (with_reducible assumption) | (with_reducible apply At.drew) | (with_reducible apply At.drewN) | (with_reducible refine At.newAt ?_; (simp; done)) | (with_reducible apply At.alloc) | (with_reducible apply At.set) | (with_reducible apply At.setOther))); all_goals (first | assumption | (apply Ne.symm; assumption) | omega | (simp only []; omega) | (simp; done) | (simp; omega)))) ?_; (first | rfl | (simp [inc]; done) | (simp [inc, IntWalk.i64_left]; done)))
                  · ((repeat' (first | (with_reducible assumption) | (with_reducible exact Fr.refl _ _) | (with_reducible refine Fr.drew ?_) | (with_reducible refine Fr.drewN ?_ _) | (with_reducible refine Fr.alloc ?_ _) | (with_reducible refine Fr.setCell ?_ ?_ _))); all_goals (first | (left; simp only [List.mem_cons, true_or, or_true]; done) | (left; simp only [List.mem_cons, List.mem_append, true_or, or_true]; done) | (right; simp only []; omega) | (right; simp; done) | (right; simp; omega) | (left; simp; done)))
                case measure => simp [intOf]; omega
          | false =>
            by_cases hA1 : k < len1 ∧ k < 60
            · obtain ⟨ba, off, rfl, hba, hc⟩ := HROW.out k hA1.1
              have hc' : wr.cell? ⟨ba, off + k, none⟩ = some (.int .i64 (picks.getD k 0)) := by
                rw [← hc]; exact Fr.cellOld F1 hba
              obtain ⟨v, hv⟩ : ∃ v, picks.getD k 0 = v := ⟨_, rfl⟩
              rw [hv] at hc'
              have HV := hid hv
              clear hv
              have HA1 := hid hA1
              have i1 : (k : Int) < len1 := by omega
              have i2 : (k : Int) < 60 := by omega
              clear hA1 hc
              have HP := hid hp
              have e1 : bits .and .i64 v 1 = 0 := by
                have := HP.out
                unfold pickOf at this
                rw [if_pos ⟨by rw [HLEN.out]; exact HA1.out.1, HA1.out.2⟩, HV.out] at this
                simp only [decide_eq_false_iff_not] at this
                rw [and1_i64]; omega
              clear hp
              have HRUN' : Hid (dropsLoop e h0 picks (200 - (k + 1)) (k + 1) (dropsStep e h0 false s) = dropsLoop e h0 picks 200 0 s0) := hid (by
                rw [← HRUN.out, show 200 - k = (200 - (k + 1)) + 1 by omega, dropsLoop, if_neg (by rw [HD0.out, HD1.out]; decide), HP.out])
              have HM' : Hid (dropsStep e h0 false s ∈ R) := hid (HCL.out s HM.out false)
              have es : dropsStep e h0 false s = s := by unfold dropsStep; simp only [HD0.out, HD1.out, if_true, Bool.false_eq_true, if_false]
              rw [es] at HRUN' HM'
              clear es
              go_wp2
              go_roundw
              case rel => exact ⟨k + 1, by omega, by simp, s, F, hA.fr (S := []) (by ((repeat' (first | (with_reducible assumption) | (with_reducible exact Fr.refl _ _) | (with_reducible refine Fr.drew ?_) | (with_reducible refine Fr.drewN ?_ _) | (with_reducible refine Fr.alloc ?_ _) | (with_reducible refine Fr.setCell ?_ ?_ _))); all_goals (first | (left; simp only [List.mem_cons, true_or, or_true]; done) | (left; simp only [List.mem_cons, List.mem_append, true_or, or_true]; done) | (right; simp only []; omega) | (right; simp; done) | (right; simp; omega) | (left; simp; done)))) (by simp), OK.out, (by ((repeat' (first | (with_reducible assumption) | (with_reducible apply MemAt.drew) | (with_reducible apply MemAt.drewN) | (with_reducible apply MemAt.alloc) | (with_reducible apply MemAt.setN))); all_goals (first | assumption | (simp only []; assumption) | (refine nl _ ?_; first | omega | (simp only []; omega) | (simp; omega))))), (by ((repeat' (first | (with_reducible assumption) | (with_reducible apply At.drew) | (with_reducible apply At.drewN) | (with_reducible refine At.newAt ?_; (simp; done)) | (with_reducible apply At.alloc) | (with_reducible apply At.set) | (with_reducible apply At.setOther))); all_goals (first | assumption | (apply Ne.symm; assumption) | omega | (simp only []; omega) | (simp; done) | (simp; omega)))), (by ((repeat' (first | (with_reducible assumption) | (with_reducible apply At.drew) | (with_reducible apply At.drewN) | (with_reducible refine At.newAt ?_; (simp; done)) | (with_reducible apply At.alloc) | (with_reducible apply At.set) | (with_reducible apply At.setOther))); all_goals (first | assumption | (apply Ne.symm; assumption) | omega | (simp only []; omega) | (simp; done) | (simp; omega)))), (by ((repeat' (first | (with_reducible assumption) | (with_reducible apply At.drew) | (with_reducible apply At.drewN) | (with_reducible refine At.newAt ?_; (simp; done)) | (with_reducible apply At.alloc) | (with_reducible apply At.set) | (with_reducible apply At.setOther))); all_goals (first | assumption | (apply Ne.symm; assumption) | omega | (simp only []; omega) | (simp; done) | (simp; omega)))), (by ((repeat' (first | (with_reducible assumption) | (with_reducible apply At.drew) | (with_reducible apply At.drewN) | (with_reducible refine At.newAt ?_; (simp; done)) | (with_reducible apply At.alloc) | (with_reducible apply At.set) | (with_reducible apply At.setOther))); all_goals (first | assumption | (apply Ne.symm; assumption) | omega | (simp only []; omega) | (simp; done) | (simp; omega)))), (by ((repeat' (first | (with_reducible assumption) | (with_reducible exact Fr.refl _ _) | (with_reducible refine Fr.drew ?_) | (with_reducible refine Fr.drewN ?_ _) | (with_reducible refine Fr.alloc ?_ _) | (with_reducible refine Fr.setCell ?_ ?_ _))); all_goals (first | (left; simp only [List.mem_cons, true_or, or_true]; done) | (left; simp only [List.mem_cons, List.mem_append, true_or, or_true]; done) | (right; simp only []; omega) | (right; simp; done) | (right; simp; omega) | (left; simp; done)))), HF.out, HRUN'.out, HM'.out⟩
              case measure => simp [intOf]; omega
            · have HA1 := hid hA1
              have dAB : (len1 : Int) ≤ k ∨ ((k : Int) < len1 ∧ (60 : Int) ≤ k) := by omega
              clear hA1
              rcases dAB with dA | ⟨dA, dB⟩
              all_goals
                have HP := hid hp
                have e1 : bits .and .i64 (k : Int) 1 = 0 := by
                  have := HP.out
                  unfold pickOf at this
                  rw [if_neg (by rw [HLEN.out]; exact HA1.out)] at this
                  simp only [decide_eq_false_iff_not] at this
                  rw [and1_i64]; omega
                clear hp
                have HRUN' : Hid (dropsLoop e h0 picks (200 - (k + 1)) (k + 1) (dropsStep e h0 false s) = dropsLoop e h0 picks 200 0 s0) := hid (by
                  rw [← HRUN.out, show 200 - k = (200 - (k + 1)) + 1 by omega, dropsLoop, if_neg (by rw [HD0.out, HD1.out]; decide), HP.out])
                have HM' : Hid (dropsStep e h0 false s ∈ R) := hid (HCL.out s HM.out false)
                have es : dropsStep e h0 false s = s := by unfold dropsStep; simp only [HD0.out, HD1.out, if_true, Bool.false_eq_true, if_false]
                rw [es] at HRUN' HM'
                clear es
                go_wp2
                go_roundw
                case rel => exact ⟨k + 1, by omega, by simp, s, F, hA.fr (S := []) (by ((repeat' (first | (with_reducible assumption) | (with_reducible exact Fr.refl _ _) | (with_reducible refine Fr.drew ?_) | (with_reducible refine Fr.drewN ?_ _) | (with_reducible refine Fr.alloc ?_ _) | (with_reducible refine Fr.setCell ?_ ?_ _))); all_goals (first | (left; simp only [List.mem_cons, true_or, or_true]; done) | (left; simp only [List.mem_cons, List.mem_append, true_or, or_true]; done) | (right; simp only []; omega) | (right; simp; done) | (right; simp; omega) | (left; simp; done)))) (by simp), OK.out, (by ((repeat' (first | (with_reducible assumption) | (with_reducible apply MemAt.drew) | (with_reducible apply MemAt.drewN) | (with_reducible apply MemAt.alloc) | (with_reducible apply MemAt.setN))); all_goals (first | assumption | (simp only []; assumption) | (refine nl _ ?_; first | omega | (simp only []; omega) | (simp; omega))))), (by ((repeat' (first | (with_reducible assumption) | (with_reducible apply At.drew) | (with_reducible apply At.drewN) | (with_reducible refine At.newAt ?_; (simp; done)) | (with_reducible apply At.alloc) | (with_reducible apply At.set) | (with_reducible apply At.setOther))); all_goals (first | assumption | (apply Ne.symm; assumption) | omega | (simp only []; omega) | (simp; done) | (simp; omega)))), (by ((repeat' (first | (with_reducible assumption) | (with_reducible apply At.drew) | (with_reducible apply At.drewN) | (with_reducible refine At.newAt ?_; (simp; done)) | (with_reducible apply At.alloc) | (with_reducible apply At.set) | (with_reducible apply At.setOther))); all_goals (first | assumption | (apply Ne.symm; assumption) | omega | (simp only []; omega) | (simp; done) | (simp; omega)))), (by ((repeat' (first | (with_reducible assumption) | (with_reducible apply At.drew) | (with_reducible apply At.drewN) | (with_reducible refine At.newAt ?_; (simp; done)) | (with_reducible apply At.alloc) | (with_reducible apply At.set) | (with_reducible apply At.setOther))); all_goals (first | assumption | (apply Ne.symm; assumption) | omega | (simp only []; omega) | (simp; done) | (simp; omega)))), (by ((repeat' (first | (with_reducible assumption) | (with_reducible apply At.drew) | (with_reducible apply At.drewN) | (with_reducible refine At.newAt ?_; (simp; done)) | (with_reducible apply At.alloc) | (with_reducible apply At.set) | (with_reducible apply At.setOther))); all_goals (first | assumption | (apply Ne.symm; assumption) | omega | (simp only []; omega) | (simp; done) | (simp; omega)))), (by ((repeat' (first | (with_reducible assumption) | (with_reducible exact Fr.refl _ _) | (with_reducible refine Fr.drew ?_) | (with_reducible refine Fr.drewN ?_ _) | (with_reducible refine Fr.alloc ?_ _) | (with_reducible refine Fr.setCell ?_ ?_ _))); all_goals (first | (left; simp only [List.mem_cons, true_or, or_true]; done) | (left; simp only [List.mem_cons, List.mem_append, true_or, or_true]; done) | (right; simp only []; omega) | (right; simp; done) | (right; simp; omega) | (left; simp; done)))), HF.out, HRUN'.out, HM'.out⟩
                case measure => simp [intOf]; omega
      | false =>
        clear hex
        cases hd1 : s.d1 with
        | true =>
          have bD' : At wr (w3.heap.size + 1 + 1) 46 #[.bool false, .bool true] := by have q := bD; rw [hd0, hd1] at q; exact q
          have cD := bD'.cell
          have gD := bD'.frozen
          have cO := bO.cell
          have gO := bO.frozen
          have cG := bG.cell
          have gG := bG.frozen
          have HD0 := hid hd0
          have HD1 := hid hd1
          clear hd0 hd1
          cases hp : pickOf picks k with
          | true =>
            by_cases hA1 : k < len1 ∧ k < 60
            · obtain ⟨ba, off, rfl, hba, hc⟩ := HROW.out k hA1.1
              have hc' : wr.cell? ⟨ba, off + k, none⟩ = some (.int .i64 (picks.getD k 0)) := by
                rw [← hc]; exact Fr.cellOld F1 hba
              obtain ⟨v, hv⟩ : ∃ v, picks.getD k 0 = v := ⟨_, rfl⟩
              rw [hv] at hc'
              have HV := hid hv
              clear hv
              have HA1 := hid hA1
              have i1 : (k : Int) < len1 := by omega
              have i2 : (k : Int) < 60 := by omega
              clear hA1 hc
              have HP := hid hp
              have e1 : bits .and .i64 v 1 = 1 := by
                have := HP.out
                unfold pickOf at this
                rw [if_pos ⟨by rw [HLEN.out]; exact HA1.out.1, HA1.out.2⟩, HV.out] at this
                simp only [decide_eq_true_eq] at this
                rw [and1_i64]; omega
              clear hp
              have HRUN' : Hid (dropsLoop e h0 picks (200 - (k + 1)) (k + 1) (dropsStep e h0 true s) = dropsLoop e h0 picks 200 0 s0) := hid (by
                rw [← HRUN.out, show 200 - k = (200 - (k + 1)) + 1 by omega, dropsLoop, if_neg (by rw [HD0.out, HD1.out]; decide), HP.out])
              have HM' : Hid (dropsStep e h0 true s ∈ R) := hid (HCL.out s HM.out true)
              have es : dropsStep e h0 true s = s := by unfold dropsStep; simp only [HD0.out, HD1.out, if_true, Bool.false_eq_true, if_false]
              rw [es] at HRUN' HM'
              clear es
              go_wp2
              go_roundw
              case rel => exact ⟨k + 1, by omega, by simp, s, F, hA.fr (S := []) (by ((repeat' (first | (with_reducible assumption) | (with_reducible exact Fr.refl _ _) | (with_reducible refine Fr.drew ?_) | (with_reducible refine Fr.drewN ?_ _) | (with_reducible refine Fr.alloc ?_ _) | (with_reducible refine Fr.setCell ?_ ?_ _))); all_goals (first | (left; simp only [List.mem_cons, true_or, or_true]; done) | (left; simp only [List.mem_cons, List.mem_append, true_or, or_true]; done) | (right; simp only []; omega) | (right; simp; done) | (right; simp; omega) | (left; simp; done)))) (by simp), OK.out, (by ((repeat' (first | (with_reducible assumption) | (with_reducible apply MemAt.drew) | (with_reducible apply MemAt.drewN) | (with_reducible apply MemAt.alloc) | (with_reducible apply MemAt.setN))); all_goals (first | assumption | (simp only []; assumption) | (refine nl _ ?_; first | omega | (simp only []; omega) | (simp; omega))))), (by ((repeat' (first | (with_reducible assumption) | (with_reducible apply At.drew) | (with_reducible apply At.drewN) | (with_reducible refine At.newAt ?_; (simp; done)) | (with_reducible apply At.alloc) | (with_reducible apply At.set) | (with_reducible apply At.setOther))); all_goals (first | assumption | (apply Ne.symm; assumption) | omega | (simp only []; omega) | (simp; done) | (simp; omega)))), (by ((repeat' (first | (with_reducible assumption) | (with_reducible apply At.drew) | (with_reducible apply At.drewN) | (with_reducible refine At.newAt ?_; (simp; done)) | (with_reducible apply At.alloc) | (with_reducible apply At.set) | (with_reducible apply At.setOther))); all_goals (first | assumption | (apply Ne.symm; assumption) | omega | (simp only []; omega) | (simp; done) | (simp; omega)))), (by ((repeat' (first | (with_reducible assumption) | (with_reducible apply At.drew) | (with_reducible apply At.drewN) | (with_reducible refine At.newAt ?_; (simp; done)) | (with_reducible apply At.alloc) | (with_reducible apply At.set) | (with_reducible apply At.setOther))); all_goals (first | assumption | (apply Ne.symm; assumption) | omega | (simp only []; omega) | (simp; done) | (simp; omega)))), (by ((repeat' (first | (with_reducible assumption) | (with_reducible apply At.drew) | (with_reducible apply At.drewN) | (with_reducible refine At.newAt ?_; (simp; done)) | (with_reducible apply At.alloc) | (with_reducible apply At.set) | (with_reducible apply At.setOther))); all_goals (first | assumption | (apply Ne.symm; assumption) | omega | (simp only []; omega) | (simp; done) | (simp; omega)))), (by ((repeat' (first | (with_reducible assumption) | (with_reducible exact Fr.refl _ _) | (with_reducible refine Fr.drew ?_) | (with_reducible refine Fr.drewN ?_ _) | (with_reducible refine Fr.alloc ?_ _) | (with_reducible refine Fr.setCell ?_ ?_ _))); all_goals (first | (left; simp only [List.mem_cons, true_or, or_true]; done) | (left; simp only [List.mem_cons, List.mem_append, true_or, or_true]; done) | (right; simp only []; omega) | (right; simp; done) | (right; simp; omega) | (left; simp; done)))), HF.out, HRUN'.out, HM'.out⟩
              case measure => simp [intOf]; omega
            · have HA1 := hid hA1
              have dAB : (len1 : Int) ≤ k ∨ ((k : Int) < len1 ∧ (60 : Int) ≤ k) := by omega
              clear hA1
              rcases dAB with dA | ⟨dA, dB⟩
              all_goals
                have HP := hid hp
                have e1 : bits .and .i64 (k : Int) 1 = 1 := by
                  have := HP.out
                  unfold pickOf at this
                  rw [if_neg (by rw [HLEN.out]; exact HA1.out)] at this
                  simp only [decide_eq_true_eq] at this
                  rw [and1_i64]; omega
                clear hp
                have HRUN' : Hid (dropsLoop e h0 picks (200 - (k + 1)) (k + 1) (dropsStep e h0 true s) = dropsLoop e h0 picks 200 0 s0) := hid (by
                  rw [← HRUN.out, show 200 - k = (200 - (k + 1)) + 1 by omega, dropsLoop, if_neg (by rw [HD0.out, HD1.out]; decide), HP.out])
                have HM' : Hid (dropsStep e h0 true s ∈ R) := hid (HCL.out s HM.out true)
                have es : dropsStep e h0 true s = s := by unfold dropsStep; simp only [HD0.out, HD1.out, if_true, Bool.false_eq_true, if_false]
                rw [es] at HRUN' HM'
                clear es
                go_wp2
                go_roundw
                case rel => exact ⟨k + 1, by omega, by simp, s, F, hA.fr (S := []) (by ((repeat' (first | (with_reducible assumption) | (with_reducible exact Fr.refl _ _) | (with_reducible refine Fr.drew ?_) | (with_reducible refine Fr.drewN ?_ _) | (with_reducible refine Fr.alloc ?_ _) | (with_reducible refine Fr.setCell ?_ ?_ _))); all_goals (first | (left; simp only [List.mem_cons, true_or, or_true]; done) | (left; simp only [List.mem_cons, List.mem_append, true_or, or_true]; done) | (right; simp only []; omega) | (right; simp; done) | (right; simp; omega) | (left; simp; done)))) (by simp), OK.out, (by ((repeat' (first | (with_reducible assumption) | (with_reducible apply MemAt.drew) | (with_reducible apply MemAt.drewN) | (with_reducible apply MemAt.alloc) | (with_reducible apply MemAt.setN))); all_goals (first | assumption | (simp only []; assumption) | (refine nl _ ?_; first | omega | (simp only []; omega) | (simp; omega))))), (by ((repeat' (first | (with_reducible assumption) | (with_reducible apply At.drew) | (with_reducible apply At.drewN) | (with_reducible refine At.newAt ?_; (simp; done)) | (with_reducible apply At.alloc) | (with_reducible apply At.set) | (with_reducible apply At.setOther))); all_goals (first | assumption | (apply Ne.symm; assumption) | omega | (simp only []; omega) | (simp; done) | (simp; omega)))), (by ((repeat' (first | (with_reducible assumption) | (with_reducible apply At.drew) | (with_reducible apply At.drewN) | (with_reducible refine At.newAt ?_; (simp; done)) | (with_reducible apply At.alloc) | (with_reducible apply At.set) | (with_reducible apply At.setOther))); all_goals (first | assumption | (apply Ne.symm; assumption) | omega | (simp only []; omega) | (simp; done) | (simp; omega)))), (by ((repeat' (first | (with_reducible assumption) | (with_reducible apply At.drew) | (with_reducible apply At.drewN) | (with_reducible refine At.newAt ?_; (simp; done)) | (with_reducible apply At.alloc) | (with_reducible apply At.set) | (with_reducible apply At.setOther))); all_goals (first | assumption | (apply Ne.symm; assumption) | omega | (simp only []; omega) | (simp; done) | (simp; omega)))), (by ((repeat' (first | (with_reducible assumption) | (with_reducible apply At.drew) | (with_reducible apply At.drewN) | (with_reducible refine At.newAt ?_; (simp; done)) | (with_reducible apply At.alloc) | (with_reducible apply At.set) | (with_reducible apply At.setOther))); all_goals (first | assumption | (apply Ne.symm; assumption) | omega | (simp only []; omega) | (simp; done) | (simp; omega)))), (by ((repeat' (first | (with_reducible assumption) | (with_reducible exact Fr.refl _ _) | (with_reducible refine Fr.drew ?_) | (with_reducible refine Fr.drewN ?_ _) | (with_reducible refine Fr.alloc ?_ _) | (with_reducible refine Fr.setCell ?_ ?_ _))); all_goals (first | (left; simp only [List.mem_cons, true_or, or_true]; done) | (left; simp only [List.mem_cons, List.mem_append, true_or, or_true]; done) | (right; simp only []; omega) | (right; simp; done) | (right; simp; omega) | (left; simp; done)))), HF.out, HRUN'.out, HM'.out⟩
                case measure => simp [intOf]; omega
          | false =>
            by_cases hA1 : k < len1 ∧ k < 60
            · obtain ⟨ba, off, rfl, hba, hc⟩ := HROW.out k hA1.1
              have hc' : wr.cell? ⟨ba, off + k, none⟩ = some (.int .i64 (picks.getD k 0)) := by
                rw [← hc]; exact Fr.cellOld F1 hba
              obtain ⟨v, hv⟩ : ∃ v, picks.getD k 0 = v := ⟨_, rfl⟩
              rw [hv] at hc'
              have HV := hid hv
              clear hv
              have HA1 := hid hA1
              have i1 : (k : Int) < len1 := by omega
              have i2 : (k : Int) < 60 := by omega
              clear hA1 hc
              have HP := hid hp
              have e1 : bits .and .i64 v 1 = 0 := by
                have := HP.out
                unfold pickOf at this
                rw [if_pos ⟨by rw [HLEN.out]; exact HA1.out.1, HA1.out.2⟩, HV.out] at this
                simp only [decide_eq_false_iff_not] at this
                rw [and1_i64]; omega
              clear hp
              have HRUN' : Hid (dropsLoop e h0 picks (200 - (k + 1)) (k + 1) (dropsStep e h0 false s) = dropsLoop e h0 picks 200 0 s0) := hid (by
                rw [← HRUN.out, show 200 - k = (200 - (k + 1)) + 1 by omega, dropsLoop, if_neg (by rw [HD0.out, HD1.out]; decide), HP.out])
              have HM' : Hid (dropsStep e h0 false s ∈ R) := hid (HCL.out s HM.out false)
              go_wp2_with fail
              refine (access_any e _ l s.m (by ((repeat' (first | (with_reducible assumption) | (with_reducible apply MemAt.drew) | (with_reducible apply MemAt.drewN) | (with_reducible apply MemAt.alloc) | (with_reducible apply MemAt.setN))); all_goals (first | assumption | (simp only []; assumption) | (refine nl _ ?_; first | omega | (simp only []; omega) | (simp; omega))))) s.a b F (hA.fr (S := []) (by ((repeat' (first | (with_reducible assumption) | (with_reducible exact Fr.refl _ _) | (with_reducible refine Fr.drew ?_) | (with_reducible refine Fr.drewN ?_ _) | (with_reducible refine Fr.alloc ?_ _) | (with_reducible refine Fr.setCell ?_ ?_ _))); all_goals (first | (left; simp only [List.mem_cons, true_or, or_true]; done) | (left; simp only [List.mem_cons, List.mem_append, true_or, or_true]; done) | (right; simp only []; omega) | (right; simp; done) | (right; simp; omega) | (left; simp; done)))) (by simp)) (fun x hx => (HF.out x hx).1) OK.out).mono ?_
              rintro r w1 ⟨F', rfl, hA', h1', f1, hF'⟩
              have nin : ∀ q, q ∉ l.list → (q = wa.heap.size ∨ q = w3.heap.size ∨ q = (w3.heap.size + 1) ∨ q = (w3.heap.size + 1 + 1)) → q ∉ F ++ l.list := fun q h1 h2 hm => by
                rw [List.mem_append] at hm
                rcases hm with hm | hm
                · have := (HF.out q hm).2; omega
                · exact h1 hm
              have bE := At.fr (b := wa.heap.size) (t := 30) (vs := e.arr l) (by ((repeat' (first | (with_reducible assumption) | (with_reducible apply At.drew) | (with_reducible apply At.drewN) | (with_reducible refine At.newAt ?_; (simp; done)) | (with_reducible apply At.alloc) | (with_reducible apply At.set) | (with_reducible apply At.setOther))); all_goals (first | assumption | (apply Ne.symm; assumption) | omega | (simp only []; omega) | (simp; done) | (simp; omega)))) f1 (nin _ nE (by simp))
              have bO := At.fr (b := w3.heap.size) (t := 36) (vs := s.out.arr) (by ((repeat' (first | (with_reducible assumption) | (with_reducible apply At.drew) | (with_reducible apply At.drewN) | (with_reducible refine At.newAt ?_; (simp; done)) | (with_reducible apply At.alloc) | (with_reducible apply At.set) | (with_reducible apply At.setOther))); all_goals (first | assumption | (apply Ne.symm; assumption) | omega | (simp only []; omega) | (simp; done) | (simp; omega)))) f1 (nin _ nO (by simp))
              have bG := At.fr (b := (w3.heap.size + 1)) (t := 36) (vs := s.gone.arr) (by ((repeat' (first | (with_reducible assumption) | (with_reducible apply At.drew) | (with_reducible apply At.drewN) | (with_reducible refine At.newAt ?_; (simp; done)) | (with_reducible apply At.alloc) | (with_reducible apply At.set) | (with_reducible apply At.setOther))); all_goals (first | assumption | (apply Ne.symm; assumption) | omega | (simp only []; omega) | (simp; done) | (simp; omega)))) f1 (nin _ nG (by simp))
              have bD := At.fr (b := (w3.heap.size + 1 + 1)) (t := 46) (vs := #[.bool false, .bool true]) (by ((repeat' (first | (with_reducible assumption) | (with_reducible apply At.drew) | (with_reducible apply At.drewN) | (with_reducible refine At.newAt ?_; (simp; done)) | (with_reducible apply At.alloc) | (with_reducible apply At.set) | (with_reducible apply At.setOther))); all_goals (first | assumption | (apply Ne.symm; assumption) | omega | (simp only []; omega) | (simp; done) | (simp; omega)))) f1 (nin _ nD (by simp))
              have F2 := Fr.trans' (S := []) (a := w) (by ((repeat' (first | (with_reducible assumption) | (with_reducible exact Fr.refl _ _) | (with_reducible refine Fr.drew ?_) | (with_reducible refine Fr.drewN ?_ _) | (with_reducible refine Fr.alloc ?_ _) | (with_reducible refine Fr.setCell ?_ ?_ _))); all_goals (first | (left; simp only [List.mem_cons, true_or, or_true]; done) | (left; simp only [List.mem_cons, List.mem_append, true_or, or_true]; done) | (right; simp only []; omega) | (right; simp; done) | (right; simp; omega) | (left; simp; done)))) f1 (fun x hx hxw => by
                rw [List.mem_append] at hx
                rcases hx with hx | hx
                · have := (HF.out x hx).2; omega
                · exact HLN.out x hx hxw)
              have HFn : Hid (∀ x ∈ F', x ∉ l.list ∧ w.heap.size ≤ x ∧ x ≠ wa.heap.size ∧ x ≠ w3.heap.size ∧ x ≠ (w3.heap.size + 1) ∧ x ≠ (w3.heap.size + 1 + 1)) := hid (fun x hx => by
                rcases hF' x hx with hx | hx
                · exact HF.out x hx
                · (try simp only [World.size_drew, World.size_drewN] at hx)
                  exact ⟨nl x (by omega), by omega, by omega, by omega, by omega, by omega⟩)
              have cE := bE.cell
              have lE := bE.lt
              have lD := bD.lt
              have cO := bO.cell
              have gO := bO.frozen
              have cG := bG.cell
              have cD := bD.cell
              have gD := bD.frozen
              clear f1 hF' nin
              cases hd : (s.a.step e s.m).2.2 with
              | false =>
                have HD := hid hd
                clear hd
                have ES := hid (show dropsStep e h0 false s = { s with a := (s.a.step e s.m).1, m := (s.a.step e s.m).2.1 } by unfold dropsStep; simp only [HD0.out, HD.out, Bool.false_eq_true, if_false])
                go_wp2
                go_roundw
                case rel =>
                  refine ⟨k + 1, by omega, by simp, dropsStep e h0 false s, F', ?_, ?_, ?_, ?_, ?_, ?_, ?_, ?_, HFn.out, HRUN'.out, HM'.out⟩
                  · rw [ES.out]; exact hA'.fr (S := [(w3.heap.size + 1 + 1)]) (by ((repeat' (first | (with_reducible assumption) | (with_reducible exact Fr.refl _ _) | (with_reducible refine Fr.drew ?_) | (with_reducible refine Fr.drewN ?_ _) | (with_reducible refine Fr.alloc ?_ _) | (with_reducible refine Fr.setCell ?_ ?_ _))); all_goals (first | (left; simp only [List.mem_cons, true_or, or_true]; done) | (left; simp only [List.mem_cons, List.mem_append, true_or, or_true]; done) | (right; simp only []; omega) | (right; simp; done) | (right; simp; omega) | (left; simp; done)))) (fun x hx q => by simp only [List.mem_cons, List.not_mem_nil, or_false] at q; have := (HFn.out x hx).2; omega)
                  · rw [ES.out]; exact OK.out.step e s.m
                  · rw [ES.out]; ((repeat' (first | (with_reducible assumption) | (with_reducible apply MemAt.drew) | (with_reducible apply MemAt.drewN) | (with_reducible apply MemAt.alloc) | (with_reducible apply MemAt.setN))); all_goals (first | assumption | (simp only []; assumption) | (refine nl _ ?_; first | omega | (simp only []; omega) | (simp; omega))))
                  · ((repeat' (first | (with_reducible assumption) | (with_reducible apply At.drew) | (with_reducible apply At.drewN) | (with_reducible refine At.newAt ?_; (simp; done)) | (with_reducible apply At.alloc) | (with_reducible apply At.set) | (with_reducible apply At.setOther))); all_goals (first | assumption | (apply Ne.symm; assumption) | omega | (simp only []; omega) | (simp; done) | (simp; omega)))
                  · rw [ES.out]; ((repeat' (first | (with_reducible assumption) | (with_reducible apply At.drew) | (with_reducible apply At.drewN) | (with_reducible refine At.newAt ?_; (simp; done)) | (with_reducible apply At.alloc) | (with_reducible apply At.set) | (with_reducible apply At.setOther))); all_goals (first | assumption | (apply Ne.symm; assumption) | omega | (simp only []; omega) | (simp; done) | (simp; omega)))
                  · rw [ES.out]; ((repeat' (first | (with_reducible assumption) | (with_reducible apply At.drew) | (with_reducible apply At.drewN) | (with_reducible refine At.newAt ?_; (simp; done)) | (with_reducible apply At.alloc) | (with_reducible apply At.set) | (with_reducible apply At.setOther))); all_goals (first | assumption | (apply Ne.symm; assumption) | omega | (simp only []; omega) | (simp; done) | (simp; omega)))
                  · rw [ES.out, HD0.out, HD1.out]; (refine At.to (by ((repeat' (first | (with_reducible assumption) | (with_reducible apply At.drew) | (with_reducible apply At.drewN) | (with_reducible refine At.newAt ?_; (simp; done)) | (with_reducible apply At.alloc) | (with_reducible apply At.set) | (with_reducible apply At.setOther))); all_goals (first | assumption | (apply Ne.symm; assumption) | omega | (simp only []; omega) | (simp; done) | (simp; omega)))) ?_; (first | rfl | (simp [inc]; done) | (simp [inc, IntWalk.i64_left]; done)))
                  · ((repeat' (first | (with_reducible assumption) | (with_reducible exact Fr.refl _ _) | (with_reducible refine Fr.drew ?_) | (with_reducible refine Fr.drewN ?_ _) | (with_reducible refine Fr.alloc ?_ _) | (with_reducible refine Fr.setCell ?_ ?_ _))); all_goals (first | (left; simp only [List.mem_cons, true_or, or_true]; done) | (left; simp only [List.mem_cons, List.mem_append, true_or, or_true]; done) | (right; simp only []; omega) | (right; simp; done) | (right; simp; omega) | (left; simp; done)))
                case measure => simp [intOf]; omega
              | true =>
                have HD := hid hd
                clear hd
                have ES := hid (show dropsStep e h0 false s = { s with a := (s.a.step e s.m).1, m := (s.a.step e s.m).2.1, d0 := true, out := (s.a.step e s.m).1.out } by unfold dropsStep; simp only [HD0.out, HD.out, Bool.false_eq_true, if_false, if_true])
                go_wp2_with fail
                refine (access_done _ _ b F' (hA'.fr (S := [(w3.heap.size + 1 + 1)]) (by ((repeat' (first | (with_reducible assumption) | (with_reducible exact Fr.refl _ _) | (with_reducible refine Fr.drew ?_) | (with_reducible refine Fr.drewN ?_ _) | (with_reducible refine Fr.alloc ?_ _) | (with_reducible refine Fr.setCell ?_ ?_ _))); all_goals (first | (left; simp only [List.mem_cons, true_or, or_true]; done) | (left; simp only [List.mem_cons, List.mem_append, true_or, or_true]; done) | (right; simp only []; omega) | (right; simp; done) | (right; simp; omega) | (left; simp; done)))) (fun x hx q => by simp only [List.mem_cons, List.not_mem_nil, or_false] at q; have := (HFn.out x hx).2; omega))).mono ?_
                rintro r w2 ⟨rfl, f2⟩
                have hA' := AccessAt.fr (hA'.fr (S := [(w3.heap.size + 1 + 1)]) (by ((repeat' (first | (with_reducible assumption) | (with_reducible exact Fr.refl _ _) | (with_reducible refine Fr.drew ?_) | (with_reducible refine Fr.drewN ?_ _) | (with_reducible refine Fr.alloc ?_ _) | (with_reducible refine Fr.setCell ?_ ?_ _))); all_goals (first | (left; simp only [List.mem_cons, true_or, or_true]; done) | (left; simp only [List.mem_cons, List.mem_append, true_or, or_true]; done) | (right; simp only []; omega) | (right; simp; done) | (right; simp; omega) | (left; simp; done)))) (fun x hx q => by simp only [List.mem_cons, List.not_mem_nil, or_false] at q; have := (HFn.out x hx).2; omega)) f2 (by simp)
                have h1' := MemAt.frl (l := l) (by ((repeat' (first | (with_reducible assumption) | (with_reducible apply MemAt.drew) | (with_reducible apply MemAt.drewN) | (with_reducible apply MemAt.alloc) | (with_reducible apply MemAt.setN))); all_goals (first | assumption | (simp only []; assumption) | (refine nl _ ?_; first | omega | (simp only []; omega) | (simp; omega))))) f2 (by simp)
                have bE := At.fr (b := wa.heap.size) (t := 30) (vs := e.arr l) (by ((repeat' (first | (with_reducible assumption) | (with_reducible apply At.drew) | (with_reducible apply At.drewN) | (with_reducible refine At.newAt ?_; (simp; done)) | (with_reducible apply At.alloc) | (with_reducible apply At.set) | (with_reducible apply At.setOther))); all_goals (first | assumption | (apply Ne.symm; assumption) | omega | (simp only []; omega) | (simp; done) | (simp; omega)))) f2 (by simp)
                have bO := At.fr (b := w3.heap.size) (t := 36) (vs := s.out.arr) (by ((repeat' (first | (with_reducible assumption) | (with_reducible apply At.drew) | (with_reducible apply At.drewN) | (with_reducible refine At.newAt ?_; (simp; done)) | (with_reducible apply At.alloc) | (with_reducible apply At.set) | (with_reducible apply At.setOther))); all_goals (first | assumption | (apply Ne.symm; assumption) | omega | (simp only []; omega) | (simp; done) | (simp; omega)))) f2 (by simp)
                have bG := At.fr (b := (w3.heap.size + 1)) (t := 36) (vs := s.gone.arr) (by ((repeat' (first | (with_reducible assumption) | (with_reducible apply At.drew) | (with_reducible apply At.drewN) | (with_reducible refine At.newAt ?_; (simp; done)) | (with_reducible apply At.alloc) | (with_reducible apply At.set) | (with_reducible apply At.setOther))); all_goals (first | assumption | (apply Ne.symm; assumption) | omega | (simp only []; omega) | (simp; done) | (simp; omega)))) f2 (by simp)
                have bD := At.fr (b := (w3.heap.size + 1 + 1)) (t := 46) (vs := #[.bool true, .bool true]) (by first | ((repeat' (first | (with_reducible assumption) | (with_reducible apply At.drew) | (with_reducible apply At.drewN) | (with_reducible refine At.newAt ?_; (simp; done)) | (with_reducible apply At.alloc) | (with_reducible apply At.set) | (with_reducible apply At.setOther))); all_goals (first | assumption | (apply Ne.symm; assumption) | omega | (simp only []; omega) | (simp; done) | (simp; omega))) | exact At.to (by ((repeat' (first | (with_reducible assumption) | (with_reducible apply At.drew) | (with_reducible apply At.drewN) | (with_reducible refine At.newAt ?_; (simp; done)) | (with_reducible apply At.alloc) | (with_reducible apply At.set) | (with_reducible apply At.setOther))); all_goals (first | assumption | (apply Ne.symm; assumption) | omega | (simp only []; omega) | (simp; done) | (simp; omega)))) (by (first | rfl | (simp [inc]; done) | (simp [inc, IntWalk.i64_left]; done)))) f2 (by simp)
                have F2 := Fr.sub (S := []) (a := w) (by ((repeat' (first | (with_reducible assumption) | (with_reducible exact Fr.refl _ _) | (with_reducible refine Fr.drew ?_) | (with_reducible refine Fr.drewN ?_ _) | (with_reducible refine Fr.alloc ?_ _) | (with_reducible refine Fr.setCell ?_ ?_ _))); all_goals (first | (left; simp only [List.mem_cons, true_or, or_true]; done) | (left; simp only [List.mem_cons, List.mem_append, true_or, or_true]; done) | (right; simp only []; omega) | (right; simp; done) | (right; simp; omega) | (left; simp; done)))) f2 (by simp)
                have cE := bE.cell
                have lE := bE.lt
                have lD := bD.lt
                have cO := bO.cell
                have gO := bO.frozen
                clear f2
                go_wp2
                go_roundw
                case rel =>
                  refine ⟨k + 1, by omega, by simp, dropsStep e h0 false s, F', ?_, ?_, ?_, ?_, ?_, ?_, ?_, ?_, HFn.out, HRUN'.out, HM'.out⟩
                  · rw [ES.out]; exact hA'.fr (S := [w3.heap.size]) (by ((repeat' (first | (with_reducible assumption) | (with_reducible exact Fr.refl _ _) | (with_reducible refine Fr.drew ?_) | (with_reducible refine Fr.drewN ?_ _) | (with_reducible refine Fr.alloc ?_ _) | (with_reducible refine Fr.setCell ?_ ?_ _))); all_goals (first | (left; simp only [List.mem_cons, true_or, or_true]; done) | (left; simp only [List.mem_cons, List.mem_append, true_or, or_true]; done) | (right; simp only []; omega) | (right; simp; done) | (right; simp; omega) | (left; simp; done)))) (fun x hx q => by simp only [List.mem_cons, List.not_mem_nil, or_false] at q; have := (HFn.out x hx).2; omega)
                  · rw [ES.out]; exact OK.out.step e s.m
                  · rw [ES.out]; ((repeat' (first | (with_reducible assumption) | (with_reducible apply MemAt.drew) | (with_reducible apply MemAt.drewN) | (with_reducible apply MemAt.alloc) | (with_reducible apply MemAt.setN))); all_goals (first | assumption | (simp only []; assumption) | (refine nl _ ?_; first | omega | (simp only []; omega) | (simp; omega))))
                  · ((repeat' (first | (with_reducible assumption) | (with_reducible apply At.drew) | (with_reducible apply At.drewN) | (with_reducible refine At.newAt ?_; (simp; done)) | (with_reducible apply At.alloc) | (with_reducible apply At.set) | (with_reducible apply At.setOther))); all_goals (first | assumption | (apply Ne.symm; assumption) | omega | (simp only []; omega) | (simp; done) | (simp; omega)))
                  · rw [ES.out]; (refine At.to (by ((repeat' (first | (with_reducible assumption) | (with_reducible apply At.drew) | (with_reducible apply At.drewN) | (with_reducible refine At.newAt ?_; (simp; done)) | (with_reducible apply At.alloc) | (with_reducible apply At.set) | (with_reducible apply At.setOther))); all_goals (first | assumption | (apply Ne.symm; assumption) | omega | (simp only []; omega) | (simp; done) | (simp; omega)))) ?_; (first | rfl | (simp [inc]; done) | (simp [inc, IntWalk.i64_left]; done)))
                  · rw [ES.out]; ((repeat' (first | (with_reducible assumption) | (with_reducible apply At.drew) | (with_reducible apply At.drewN) | (with_reducible refine At.newAt ?_; (simp; done)) | (with_reducible apply At.alloc) | (with_reducible apply At.set) | (with_reducible apply At.setOther))); all_goals (first | assumption | (apply Ne.symm; assumption) | omega | (simp only []; omega) | (simp; done) | (simp; omega)))
                  · rw [ES.out, HD1.out]; ((repeat' (first | (with_reducible assumption) | (with_reducible apply At.drew) | (with_reducible apply At.drewN) | (with_reducible refine At.newAt ?_; (simp; done)) | (with_reducible apply At.alloc) | (with_reducible apply At.set) | (with_reducible apply At.setOther))); all_goals (first | assumption | (apply Ne.symm; assumption) | omega | (simp only []; omega) | (simp; done) | (simp; omega)))
                  · ((repeat' (first | (with_reducible assumption) | (with_reducible exact Fr.refl _ _) | (with_reducible refine Fr.drew ?_) | (with_reducible refine Fr.drewN ?_ _) | (with_reducible refine Fr.alloc ?_ _) | (with_reducible refine Fr.setCell ?_ ?_ _))); all_goals (first | (left; simp only [List.mem_cons, true_or, or_true]; done) | (left; simp only [List.mem_cons, List.mem_append, true_or, or_true]; done) | (right; simp only []; omega) | (right; simp; done) | (right; simp; omega) | (left; simp; done)))
                case measure => simp [intOf]; omega
            · have HA1 := hid hA1
              have dAB : (len1 : Int) ≤ k ∨ ((k : Int) < len1 ∧ (60 : Int) ≤ k) := by omega
              clear hA1
              rcases dAB with dA | ⟨dA, dB⟩
              all_goals
                have HP := hid hp
                have e1 : bits .and .i64 (k : Int) 1 = 0 := by
                  have := HP.out
                  unfold pickOf at this
                  rw [if_neg (by rw [HLEN.out]; exact HA1.out)] at this
                  simp only [decide_eq_false_iff_not] at this
                  rw [and1_i64]; omega
                clear hp
                have HRUN' : Hid (dropsLoop e h0 picks (200 - (k + 1)) (k + 1) (dropsStep e h0 false s) = dropsLoop e h0 picks 200 0 s0) := hid (by
                  rw [← HRUN.out, show 200 - k = (200 - (k + 1)) + 1 by omega, dropsLoop, if_neg (by rw [HD0.out, HD1.out]; decide), HP.out])
                have HM' : Hid (dropsStep e h0 false s ∈ R) := hid (HCL.out s HM.out false)
                go_wp2_with fail
                refine (access_any e _ l s.m (by ((repeat' (first | (with_reducible assumption) | (with_reducible apply MemAt.drew) | (with_reducible apply MemAt.drewN) | (with_reducible apply MemAt.alloc) | (with_reducible apply MemAt.setN))); all_goals (first | assumption | (simp only []; assumption) | (refine nl _ ?_; first | omega | (simp only []; omega) | (simp; omega))))) s.a b F (hA.fr (S := []) (by ((repeat' (first | (with_reducible assumption) | (with_reducible exact Fr.refl _ _) | (with_reducible refine Fr.drew ?_) | (with_reducible refine Fr.drewN ?_ _) | (with_reducible refine Fr.alloc ?_ _) | (with_reducible refine Fr.setCell ?_ ?_ _))); all_goals (first | (left; simp only [List.mem_cons, true_or, or_true]; done) | (left; simp only [List.mem_cons, List.mem_append, true_or, or_true]; done) | (right; simp only []; omega) | (right; simp; done) | (right; simp; omega) | (left; simp; done)))) (by simp)) (fun x hx => (HF.out x hx).1) OK.out).mono ?_
                rintro r w1 ⟨F', rfl, hA', h1', f1, hF'⟩
                have nin : ∀ q, q ∉ l.list → (q = wa.heap.size ∨ q = w3.heap.size ∨ q = (w3.heap.size + 1) ∨ q = (w3.heap.size + 1 + 1)) → q ∉ F ++ l.list := fun q h1 h2 hm => by
                  rw [List.mem_append] at hm
                  rcases hm with hm | hm
                  · have := (HF.out q hm).2; omega
                  · exact h1 hm
                have bE := At.fr (b := wa.heap.size) (t := 30) (vs := e.arr l) (by ((repeat' (first | (with_reducible assumption) | (with_reducible apply At.drew) | (with_reducible apply At.drewN) | (with_reducible refine At.newAt ?_; (simp; done)) | (with_reducible apply At.alloc) | (with_reducible apply At.set) | (with_reducible apply At.setOther))); all_goals (first | assumption | (apply Ne.symm; assumption) | omega | (simp only []; omega) | (simp; done) | (simp; omega)))) f1 (nin _ nE (by simp))
                have bO := At.fr (b := w3.heap.size) (t := 36) (vs := s.out.arr) (by ((repeat' (first | (with_reducible assumption) | (with_reducible apply At.drew) | (with_reducible apply At.drewN) | (with_reducible refine At.newAt ?_; (simp; done)) | (with_reducible apply At.alloc) | (with_reducible apply At.set) | (with_reducible apply At.setOther))); all_goals (first | assumption | (apply Ne.symm; assumption) | omega | (simp only []; omega) | (simp; done) | (simp; omega)))) f1 (nin _ nO (by simp))
                have bG := At.fr (b := (w3.heap.size + 1)) (t := 36) (vs := s.gone.arr) (by ((repeat' (first | (with_reducible assumption) | (with_reducible apply At.drew) | (with_reducible apply At.drewN) | (with_reducible refine At.newAt ?_; (simp; done)) | (with_reducible apply At.alloc) | (with_reducible apply At.set) | (with_reducible apply At.setOther))); all_goals (first | assumption | (apply Ne.symm; assumption) | omega | (simp only []; omega) | (simp; done) | (simp; omega)))) f1 (nin _ nG (by simp))
                have bD := At.fr (b := (w3.heap.size + 1 + 1)) (t := 46) (vs := #[.bool false, .bool true]) (by ((repeat' (first | (with_reducible assumption) | (with_reducible apply At.drew) | (with_reducible apply At.drewN) | (with_reducible refine At.newAt ?_; (simp; done)) | (with_reducible apply At.alloc) | (with_reducible apply At.set) | (with_reducible apply At.setOther))); all_goals (first | assumption | (apply Ne.symm; assumption) | omega | (simp only []; omega) | (simp; done) | (simp; omega)))) f1 (nin _ nD (by simp))
                have F2 := Fr.trans' (S := []) (a := w) (by ((repeat' (first | (with_reducible assumption) | (with_reducible exact Fr.refl _ _) | (with_reducible refine Fr.drew ?_) | (with_reducible refine Fr.drewN ?_ _) | (with_reducible refine Fr.alloc ?_ _) | (with_reducible refine Fr.setCell ?_ ?_ _))); all_goals (first | (left; simp only [List.mem_cons, true_or, or_true]; done) | (left; simp only [List.mem_cons, List.mem_append, true_or, or_true]; done) | (right; simp only []; omega) | (right; simp; done) | (right; simp; omega) | (left; simp; done)))) f1 (fun x hx hxw => by
                  rw [List.mem_append] at hx
                  rcases hx with hx | hx
                  · have := (HF.out x hx).2; omega
                  · exact HLN.out x hx hxw)
                have HFn : Hid (∀ x ∈ F', x ∉ l.list ∧ w.heap.size ≤ x ∧ x ≠ wa.heap.size ∧ x ≠ w3.heap.size ∧ x ≠ (w3.heap.size + 1) ∧ x ≠ (w3.heap.size + 1 + 1)) := hid (fun x hx => by
                  rcases hF' x hx with hx | hx
                  · exact HF.out x hx
                  · (try simp only [World.size_drew, World.size_drewN] at hx)
                    exact ⟨nl x (by omega), by omega, by omega, by omega, by omega, by omega⟩)
                have cE := bE.cell
                have lE := bE.lt
                have lD := bD.lt
                have cO := bO.cell
                have gO := bO.frozen
                have cG := bG.cell
                have cD := bD.cell
                have gD := bD.frozen
                clear f1 hF' nin
                cases hd : (s.a.step e s.m).2.2 with
                | false =>
                  have HD := hid hd
                  clear hd
                  have ES := hid (show dropsStep e h0 false s = { s with a := (s.a.step e s.m).1, m := (s.a.step e s.m).2.1 } by unfold dropsStep; simp only [HD0.out, HD.out, Bool.false_eq_true, if_false])
                  go_wp2
                  go_roundw
                  case rel =>
                    refine ⟨k + 1, by omega, by simp, dropsStep e h0 false s, F', ?_, ?_, ?_, ?_, ?_, ?_, ?_, ?_, HFn.out, HRUN'.out, HM'.out⟩
                    · rw [ES.out]; exact hA'.fr (S := [(w3.heap.size + 1 + 1)]) (by ((repeat' (first | (with_reducible assumption) | (with_reducible exact Fr.refl _ _) | (with_reducible refine Fr.drew ?_) | (with_reducible refine Fr.drewN ?_ _) | (with_reducible refine Fr.alloc ?_ _) | (with_reducible refine Fr.setCell ?_ ?_ _))); all_goals (first | (left; simp only [List.mem_cons, true_or, or_true]; done) | (left; simp only [List.mem_cons, List.mem_append, true_or, or_true]; done) | (right; simp only []; omega) | (right; simp; done) | (right; simp; omega) | (left; simp; done)))) (fun x hx q => by simp only [List.mem_cons, List.not_mem_nil, or_false] at q; have := (HFn.out x hx).2; omega)
                    · rw [ES.out]; exact OK.out.step e s.m
                    · rw [ES.out]; ((repeat' (first | (with_reducible assumption) | (with_reducible apply MemAt.drew) | (with_reducible apply MemAt.drewN) | (with_reducible apply MemAt.alloc) | (with_reducible apply MemAt.setN))); all_goals (first | assumption | (simp only []; assumption) | (refine nl _ ?_; first | omega | (simp only []; omega) | (simp; omega))))
                    · ((repeat' (first | (with_reducible assumption) | (with_reducible apply At.drew) | (with_reducible apply At.drewN) | (with_reducible refine At.newAt ?_; (simp; done)) | (with_reducible apply At.alloc) | (with_reducible apply At.set) | (with_reducible apply At.setOther))); all_goals (first | assumption | (apply Ne.symm; assumption) | omega | (simp only []; omega) | (simp; done) | (simp; omega)))
                    · rw [ES.out]; ((repeat' (first | (with_reducible assumption) | (with_reducible apply At.drew) | (with_reducible apply At.drewN) | (with_reducible refine At.newAt ?_; (simp; done)) | (with_reducible apply At.alloc) | (with_reducible apply At.set) | (with_reducible apply At.setOther))); all_goals (first | assumption | (apply Ne.symm; assumption) | omega | (simp only []; omega) | (simp; done) | (simp; omega)))
                    · rw [ES.out]; ((repeat' (first | (with_reducible assumption) | (with_reducible apply At.drew) | (with_reducible apply At.drewN) | (with_reducible refine At.newAt ?_; (simp; done)) | (with_reducible apply At.alloc) | (with_reducible apply At.set) | (with_reducible apply At.setOther))); all_goals (first | assumption | (apply Ne.symm; assumption) | omega | (simp only []; omega) | (simp; done) | (simp; omega)))
                    · rw [ES.out, HD0.out, HD1.out]; (refine At.to (by ((repeat' (first | (with_reducible assumption) | (with_reducible apply At.drew) | (with_reducible apply At.drewN) | (with_reducible refine At.newAt ?_; (simp; done)) | (with_reducible apply At.alloc) | (with_reducible apply At.set) | (with_reducible apply At.setOther))); all_goals (first | assumption | (apply Ne.symm; assumption) | omega | (simp only []; omega) | (simp; done) | (simp; omega)))) ?_; (first | rfl | (simp [inc]; done) | (simp [inc, IntWalk.i64_left]; done)))
                    · ((repeat' (first | (with_reducible assumption) | (with_reducible exact Fr.refl _ _) | (with_reducible refine Fr.drew ?_) | (with_reducible refine Fr.drewN ?_ _) | (with_reducible refine Fr.alloc ?_ _) | (with_reducible refine Fr.setCell ?_ ?_ _))); all_goals (first | (left; simp only [List.mem_cons, true_or, or_true]; done) | (left; simp only [List.mem_cons, List.mem_append, true_or, or_true]; done) | (right; simp only []; omega) | (right; simp; done) | (right; simp; omega) | (left; simp; done)))
                  case measure => simp [intOf]; omega
                | true =>
                  have HD := hid hd
                  clear hd
                  have ES := hid (show dropsStep e h0 false s = { s with a := (s.a.step e s.m).1, m := (s.a.step e s.m).2.1, d0 := true, out := (s.a.step e s.m).1.out } by unfold dropsStep; simp only [HD0.out, HD.out, Bool.false_eq_true, if_false, if_true])
                  go_wp2_with fail
                  refine (access_done _ _ b F' (hA'.fr (S := [(w3.heap.size + 1 + 1)]) (by ((repeat' (first | (with_reducible assumption) | (with_reducible exact Fr.refl _ _) | (with_reducible refine Fr.drew ?_) | (with_reducible refine Fr.drewN ?_ _) | (with_reducible refine Fr.alloc ?_ _) | (with_reducible refine Fr.setCell ?_ ?_ _))); all_goals (first | (left; simp only [List.mem_cons, true_or, or_true]; done) | (left; simp only [List.mem_cons, List.mem_append, true_or, or_true]; done) | (right; simp only []; omega) | (right; simp; done) | (right; simp; omega) | (left; simp; done)))) (fun x hx q => by simp only [List.mem_cons, List.not_mem_nil, or_false] at q; have := (HFn.out x hx).2; omega))).mono ?_
                  rintro r w2 ⟨rfl, f2⟩
                  have hA' := AccessAt.fr (hA'.fr (S := [(w3.heap.size + 1 + 1)]) (by ((repeat' (first | (with_reducible assumption) | (with_reducible exact Fr.refl _ _) | (with_reducible refine Fr.drew ?_) | (with_reducible refine Fr.drewN ?_ _) | (with_reducible refine Fr.alloc ?_ _) | (with_reducible refine Fr.setCell ?_ ?_ _))); all_goals (first | (left; simp only [List.mem_cons, true_or, or_true]; done) | (left; simp only [List.mem_cons, List.mem_append, true_or, or_true]; done) | (right; simp only []; omega) | (right; simp; done) | (right; simp; omega) | (left; simp; done)))) (fun x hx q => by simp only [List.mem_cons, List.not_mem_nil, or_false] at q; have := (HFn.out x hx).2; omega)) f2 (by simp)
                  have h1' := MemAt.frl (l := l) (by ((repeat' (first | (with_reducible assumption) | (with_reducible apply MemAt.drew) | (with_reducible apply MemAt.drewN) | (with_reducible apply MemAt.alloc) | (with_reducible apply MemAt.setN))); all_goals (first | assumption | (simp only []; assumption) | (refine nl _ ?_; first | omega | (simp only []; omega) | (simp; omega))))) f2 (by simp)
                  have bE := At.fr (b := wa.heap.size) (t := 30) (vs := e.arr l) (by ((repeat' (first | (with_reducible assumption) | (with_reducible apply At.drew) | (with_reducible apply At.drewN) | (with_reducible refine At.newAt ?_; (simp; done)) | (with_reducible apply At.alloc) | (with_reducible apply At.set) | (with_reducible apply At.setOther))); all_goals (first | assumption | (apply Ne.symm; assumption) | omega | (simp only []; omega) | (simp; done) | (simp; omega)))) f2 (by simp)
                  have bO := At.fr (b := w3.heap.size) (t := 36) (vs := s.out.arr) (by ((repeat' (first | (with_reducible assumption) | (with_reducible apply At.drew) | (with_reducible apply At.drewN) | (with_reducible refine At.newAt ?_; (simp; done)) | (with_reducible apply At.alloc) | (with_reducible apply At.set) | (with_reducible apply At.setOther))); all_goals (first | assumption | (apply Ne.symm; assumption) | omega | (simp only []; omega) | (simp; done) | (simp; omega)))) f2 (by simp)
                  have bG := At.fr (b := (w3.heap.size + 1)) (t := 36) (vs := s.gone.arr) (by ((repeat' (first | (with_reducible assumption) | (with_reducible apply At.drew) | (with_reducible apply At.drewN) | (with_reducible refine At.newAt ?_; (simp; done)) | (with_reducible apply At.alloc) | (with_reducible apply At.set) | (with_reducible apply At.setOther))); all_goals (first | assumption | (apply Ne.symm; assumption) | omega | (simp only []; omega) | (simp; done) | (simp; omega)))) f2 (by simp)
                  have bD := At.fr (b := (w3.heap.size + 1 + 1)) (t := 46) (vs := #[.bool true, .bool true]) (by first | ((repeat' (first | (with_reducible assumption) | (with_reducible apply At.drew) | (with_reducible apply At.drewN) | (with_reducible refine At.newAt ?_; (simp; done)) | (with_reducible apply At.alloc) | (with_reducible apply At.set) | (with_reducible apply At.setOther))); all_goals (first | assumption | (apply Ne.symm; assumption) | omega | (simp only []; omega) | (simp; done) | (simp; omega))) | exact At.to (by ((repeat' (first | (with_reducible assumption) | (with_reducible apply At.drew) | (with_reducible apply At.drewN) | (with_reducible refine At.newAt ?_; (simp; done)) | (with_reducible apply At.alloc) | (with_reducible apply At.set) | (with_reducible apply At.setOther))); all_goals (first | assumption | (apply Ne.symm; assumption) | omega | (simp only []; omega) | (simp; done) | (simp; omega)))) (by (first | rfl | (simp [inc]; done) | (simp [inc, IntWalk.i64_left]; done)))) f2 (by simp)
                  have F2 := Fr.sub (S := []) (a := w) (by ((repeat' (first | (with_reducible assumption) | (with_reducible exact Fr.refl _ _) | (with_reducible refine Fr.drew ?_) | (with_reducible refine Fr.drewN ?_ _) | (with_reducible refine Fr.alloc ?_ _) | (with_reducible refine Fr.setCell ?_ ?_ _))); all_goals (first | (left; simp only [List.mem_cons, true_or, or_true]; done) | (left; simp only [List.mem_cons, List.mem_append, true_or, or_true]; done) | (right; simp only []; omega) | (right; simp; done) | (right; simp; omega) | (left; simp; done)))) f2 (by simp)
                  have cE := bE.cell
                  have lE := bE.lt
                  have lD := bD.lt
                  have cO := bO.cell
                  have gO := bO.frozen
                  clear f2
                  go_wp2
                  go_roundw
                  case rel =>
                    refine ⟨k + 1, by omega, by simp, dropsStep e h0 false s, F', ?_, ?_, ?_, ?_, ?_, ?_, ?_, ?_, HFn.out, HRUN'.out, HM'.out⟩
                    · rw [ES.out]; exact hA'.fr (S := [w3.heap.size]) (by ((repeat' (first | (with_reducible assumption) | (with_reducible exact Fr.refl _ _) | (with_reducible refine Fr.drew ?_) | (with_reducible refine Fr.drewN ?_ _) | (with_reducible refine Fr.alloc ?_ _) | (with_reducible refine Fr.setCell ?_ ?_ _))); all_goals (first | (left; simp only [List.mem_cons, true_or, or_true]; done) | (left; simp only [List.mem_cons, List.mem_append, true_or, or_true]; done) | (right; simp only []; omega) | (right; simp; done) | (right; simp; omega) | (left; simp; done)))) (fun x hx q => by simp only [List.mem_cons, List.not_mem_nil, or_false] at q; have := (HFn.out x hx).2; omega)
                    · rw [ES.out]; exact OK.out.step e s.m
                    · rw [ES.out]; ((repeat' (first | (with_reducible assumption) | (with_reducible apply MemAt.drew) | (with_reducible apply MemAt.drewN) | (with_reducible apply MemAt.alloc) | (with_reducible apply MemAt.setN))); all_goals (first | assumption | (simp only []; assumption) | (refine nl _ ?_; first | omega | (simp only []; omega) | (simp; omega))))
                    · ((repeat' (first | (with_reducible assumption) | (with_reducible apply At.drew) | (with_reducible apply At.drewN) | (with_reducible refine At.newAt ?_; (simp; done)) | (with_reducible apply At.alloc) | (with_reducible apply At.set) | (with_reducible apply At.setOther))); all_goals (first | assumption | (apply Ne.symm; assumption) | omega | (simp only []; omega) | (simp; done) | (simp; omega)))
                    · rw [ES.out]; (refine At.to (by ((repeat' (first | (with_reducible assumption) | (with_reducible apply At.drew) | (with_reducible apply At.drewN) | (with_reducible refine At.newAt ?_; (simp; done)) | (with_reducible apply At.alloc) | (with_reducible apply At.set) | (with_reducible apply At.setOther))); all_goals (first | assumption | (apply Ne.symm; assumption) | omega | (simp only []; omega) | (simp; done) | (simp; omega)))) ?_; (first | rfl | (simp [inc]; done) | (simp [inc, IntWalk.i64_left]; done)))
                    · rw [ES.out]; ((repeat' (first | (with_reducible assumption) | (with_reducible apply At.drew) | (with_reducible apply At.drewN) | (with_reducible refine At.newAt ?_; (simp; done)) | (with_reducible apply At.alloc) | (with_reducible apply At.set) | (with_reducible apply At.setOther))); all_goals (first | assumption | (apply Ne.symm; assumption) | omega | (simp only []; omega) | (simp; done) | (simp; omega)))
                    · rw [ES.out, HD1.out]; ((repeat' (first | (with_reducible assumption) | (with_reducible apply At.drew) | (with_reducible apply At.drewN) | (with_reducible refine At.newAt ?_; (simp; done)) | (with_reducible apply At.alloc) | (with_reducible apply At.set) | (with_reducible apply At.setOther))); all_goals (first | assumption | (apply Ne.symm; assumption) | omega | (simp only []; omega) | (simp; done) | (simp; omega)))
                    · ((repeat' (first | (with_reducible assumption) | (with_reducible exact Fr.refl _ _) | (with_reducible refine Fr.drew ?_) | (with_reducible refine Fr.drewN ?_ _) | (with_reducible refine Fr.alloc ?_ _) | (with_reducible refine Fr.setCell ?_ ?_ _))); all_goals (first | (left; simp only [List.mem_cons, true_or, or_true]; done) | (left; simp only [List.mem_cons, List.mem_append, true_or, or_true]; done) | (right; simp only []; omega) | (right; simp; done) | (right; simp; omega) | (left; simp; done)))
                  case measure => simp [intOf]; omega
        | false =>
          have bD' : At wr (w3.heap.size + 1 + 1) 46 #[.bool false, .bool false] := by have q := bD; rw [hd0, hd1] at q; exact q
          have cD := bD'.cell
          have gD := bD'.frozen
          have cO := bO.cell
          have gO := bO.frozen
          have cG := bG.cell
          have gG := bG.frozen
          have HD0 := hid hd0
          have HD1 := hid hd1
          clear hd0 hd1
          cases hp : pickOf picks k with
          | true =>
            by_cases hA1 : k < len1 ∧ k < 60
            · obtain ⟨ba, off, rfl, hba, hc⟩ := HROW.out k hA1.1
              have hc' : wr.cell? ⟨ba, off + k, none⟩ = some (.int .i64 (picks.getD k 0)) := by
                rw [← hc]; exact Fr.cellOld F1 hba
              obtain ⟨v, hv⟩ : ∃ v, picks.getD k 0 = v := ⟨_, rfl⟩
              rw [hv] at hc'
              have HV := hid hv
              clear hv
              have HA1 := hid hA1
              have i1 : (k : Int) < len1 := by omega
              have i2 : (k : Int) < 60 := by omega
              clear hA1 hc
              have HP := hid hp
              have e1 : bits .and .i64 v 1 = 1 := by
                have := HP.out
                unfold pickOf at this
                rw [if_pos ⟨by rw [HLEN.out]; exact HA1.out.1, HA1.out.2⟩, HV.out] at this
                simp only [decide_eq_true_eq] at this
                rw [and1_i64]; omega
              clear hp
              have HRUN' : Hid (dropsLoop e h0 picks (200 - (k + 1)) (k + 1) (dropsStep e h0 true s) = dropsLoop e h0 picks 200 0 s0) := hid (by
                rw [← HRUN.out, show 200 - k = (200 - (k + 1)) + 1 by omega, dropsLoop, if_neg (by rw [HD0.out, HD1.out]; decide), HP.out])
              have HM' : Hid (dropsStep e h0 true s ∈ R) := hid (HCL.out s HM.out true)
              have ES := hid (show dropsStep e h0 true s = { s with m := (letGo e s.m h0 false).2, gone := (letGo e s.m h0 false).1, d1 := true } by unfold dropsStep; simp only [if_true, HD1.out, Bool.false_eq_true, if_false])
              go_wp2_with fail
              refine (letGo_any e _ l s.m (by ((repeat' (first | (with_reducible assumption) | (with_reducible apply MemAt.drew) | (with_reducible apply MemAt.drewN) | (with_reducible apply MemAt.alloc) | (with_reducible apply MemAt.setN))); all_goals (first | assumption | (simp only []; assumption) | (refine nl _ ?_; first | omega | (simp only []; omega) | (simp; omega))))) h0 false (HOK.out s HM.out HD1.out)).mono ?_
              rintro r w1 ⟨rfl, h1', f1⟩
              have bE := At.fr (b := wa.heap.size) (t := 30) (vs := e.arr l) (by ((repeat' (first | (with_reducible assumption) | (with_reducible apply At.drew) | (with_reducible apply At.drewN) | (with_reducible refine At.newAt ?_; (simp; done)) | (with_reducible apply At.alloc) | (with_reducible apply At.set) | (with_reducible apply At.setOther))); all_goals (first | assumption | (apply Ne.symm; assumption) | omega | (simp only []; omega) | (simp; done) | (simp; omega)))) f1 nE
              have bO := At.fr (b := w3.heap.size) (t := 36) (vs := s.out.arr) (by ((repeat' (first | (with_reducible assumption) | (with_reducible apply At.drew) | (with_reducible apply At.drewN) | (with_reducible refine At.newAt ?_; (simp; done)) | (with_reducible apply At.alloc) | (with_reducible apply At.set) | (with_reducible apply At.setOther))); all_goals (first | assumption | (apply Ne.symm; assumption) | omega | (simp only []; omega) | (simp; done) | (simp; omega)))) f1 nO
              have bG := At.fr (b := (w3.heap.size + 1)) (t := 36) (vs := s.gone.arr) (by ((repeat' (first | (with_reducible assumption) | (with_reducible apply At.drew) | (with_reducible apply At.drewN) | (with_reducible refine At.newAt ?_; (simp; done)) | (with_reducible apply At.alloc) | (with_reducible apply At.set) | (with_reducible apply At.setOther))); all_goals (first | assumption | (apply Ne.symm; assumption) | omega | (simp only []; omega) | (simp; done) | (simp; omega)))) f1 nG
              have bD := At.fr (b := (w3.heap.size + 1 + 1)) (t := 46) (vs := #[.bool false, .bool false]) (by ((repeat' (first | (with_reducible assumption) | (with_reducible apply At.drew) | (with_reducible apply At.drewN) | (with_reducible refine At.newAt ?_; (simp; done)) | (with_reducible apply At.alloc) | (with_reducible apply At.set) | (with_reducible apply At.setOther))); all_goals (first | assumption | (apply Ne.symm; assumption) | omega | (simp only []; omega) | (simp; done) | (simp; omega)))) f1 nD
              have hA1 := AccessAt.fr (hA.fr (S := []) (by ((repeat' (first | (with_reducible assumption) | (with_reducible exact Fr.refl _ _) | (with_reducible refine Fr.drew ?_) | (with_reducible refine Fr.drewN ?_ _) | (with_reducible refine Fr.alloc ?_ _) | (with_reducible refine Fr.setCell ?_ ?_ _))); all_goals (first | (left; simp only [List.mem_cons, true_or, or_true]; done) | (left; simp only [List.mem_cons, List.mem_append, true_or, or_true]; done) | (right; simp only []; omega) | (right; simp; done) | (right; simp; omega) | (left; simp; done)))) (by simp)) f1 (fun x hx => (HF.out x hx).1)
              have F2 := Fr.trans' (S := []) (a := w) (by ((repeat' (first | (with_reducible assumption) | (with_reducible exact Fr.refl _ _) | (with_reducible refine Fr.drew ?_) | (with_reducible refine Fr.drewN ?_ _) | (with_reducible refine Fr.alloc ?_ _) | (with_reducible refine Fr.setCell ?_ ?_ _))); all_goals (first | (left; simp only [List.mem_cons, true_or, or_true]; done) | (left; simp only [List.mem_cons, List.mem_append, true_or, or_true]; done) | (right; simp only []; omega) | (right; simp; done) | (right; simp; omega) | (left; simp; done)))) f1 HLN.out
              have cE := bE.cell
              have lE := bE.lt
              have lD := bD.lt
              have cO := bO.cell
              have cG := bG.cell
              have gG := bG.frozen
              have cD := bD.cell
              have gD := bD.frozen
              clear f1
              go_wp2
              go_roundw
              case rel =>
                refine ⟨k + 1, by omega, by simp, dropsStep e h0 true s, F, ?_, ?_, ?_, ?_, ?_, ?_, ?_, ?_, HF.out, HRUN'.out, HM'.out⟩
                · rw [ES.out]; exact hA1.fr (S := [(w3.heap.size + 1), (w3.heap.size + 1 + 1)]) (by ((repeat' (first | (with_reducible assumption) | (with_reducible exact Fr.refl _ _) | (with_reducible refine Fr.drew ?_) | (with_reducible refine Fr.drewN ?_ _) | (with_reducible refine Fr.alloc ?_ _) | (with_reducible refine Fr.setCell ?_ ?_ _))); all_goals (first | (left; simp only [List.mem_cons, true_or, or_true]; done) | (left; simp only [List.mem_cons, List.mem_append, true_or, or_true]; done) | (right; simp only []; omega) | (right; simp; done) | (right; simp; omega) | (left; simp; done)))) (fun x hx q => by simp only [List.mem_cons, List.not_mem_nil, or_false] at q; have := (HF.out x hx).2; omega)
                · rw [ES.out]; exact OK.out
                · rw [ES.out]; ((repeat' (first | (with_reducible assumption) | (with_reducible apply MemAt.drew) | (with_reducible apply MemAt.drewN) | (with_reducible apply MemAt.alloc) | (with_reducible apply MemAt.setN))); all_goals (first | assumption | (simp only []; assumption) | (refine nl _ ?_; first | omega | (simp only []; omega) | (simp; omega))))
                · ((repeat' (first | (with_reducible assumption) | (with_reducible apply At.drew) | (with_reducible apply At.drewN) | (with_reducible refine At.newAt ?_; (simp; done)) | (with_reducible apply At.alloc) | (with_reducible apply At.set) | (with_reducible apply At.setOther))); all_goals (first | assumption | (apply Ne.symm; assumption) | omega | (simp only []; omega) | (simp; done) | (simp; omega)))
                · rw [ES.out]; ((repeat' (first | (with_reducible assumption) | (with_reducible apply At.drew) | (with_reducible apply At.drewN) | (with_reducible refine At.newAt ?_; (simp; done)) | (with_reducible apply At.alloc) | (with_reducible apply At.set) | (with_reducible apply At.setOther))); all_goals (first | assumption | (apply Ne.symm; assumption) | omega | (simp only []; omega) | (simp; done) | (simp; omega)))
                · rw [ES.out]; (refine At.to (by ((repeat' (first | (with_reducible assumption) | (with_reducible apply At.drew) | (with_reducible apply At.drewN) | (with_reducible refine At.newAt ?_; (simp; done)) | (with_reducible apply At.alloc) | (with_reducible apply At.set) | (with_reducible apply At.setOther))); all_goals (first | assumption | (apply Ne.symm; assumption) | omega | (simp only []; omega) | (simp; done) | (simp; omega)))) ?_; (first | rfl | (simp [inc]; done) | (simp [inc, IntWalk.i64_left]; done)))
                · rw [ES.out, HD0.out]; (refine At.to (by ((repeat' (first | (with_reducible assumption) | (with_reducible apply At.drew) | (with_reducible apply At.drewN) | (with_reducible refine At.newAt ?_; (simp; done)) | (with_reducible apply At.alloc) | (with_reducible apply At.set) | (with_reducible apply At.setOther))); all_goals (first | assumption | (apply Ne.symm; assumption) | omega | (simp only []; omega) | (simp; done) | (simp; omega)))) ?_; (first | rfl | (simp [inc]; done) | (simp [inc, IntWalk.i64_left]; done)))
                · ((repeat' (first | (with_reducible assumption) | (with_reducible exact Fr.refl _ _) | (with_reducible refine Fr.drew ?_) | (with_reducible refine Fr.drewN ?_ _) | (with_reducible refine Fr.alloc ?_ _) | (with_reducible refine Fr.setCell ?_ ?_ _))); all_goals (first | (left; simp only [List.mem_cons, true_or, or_true]; done) | (left; simp only [List.mem_cons, List.mem_append, true_or, or_true]; done) | (right; simp only []; omega) | (right; simp; done) | (right; simp; omega) | (left; simp; done)))
              case measure => simp [intOf]; omega
            · have HA1 := hid hA1
              have dAB : (len1 : Int) ≤ k ∨ ((k : Int) < len1 ∧ (60 : Int) ≤ k) := by omega
              clear hA1
              rcases dAB with dA | ⟨dA, dB⟩
              all_goals
                have HP := hid hp
                have e1 : bits .and .i64 (k : Int) 1 = 1 := by
                  have := HP.out
                  unfold pickOf at this
                  rw [if_neg (by rw [HLEN.out]; exact HA1.out)] at this
                  simp only [decide_eq_true_eq] at this
                  rw [and1_i64]; omega
                clear hp
                have HRUN' : Hid (dropsLoop e h0 picks (200 - (k + 1)) (k + 1) (dropsStep e h0 true s) = dropsLoop e h0 picks 200 0 s0) := hid (by
                  rw [← HRUN.out, show 200 - k = (200 - (k + 1)) + 1 by omega, dropsLoop, if_neg (by rw [HD0.out, HD1.out]; decide), HP.out])
                have HM' : Hid (dropsStep e h0 true s ∈ R) := hid (HCL.out s HM.out true)
                have ES := hid (show dropsStep e h0 true s = { s with m := (letGo e s.m h0 false).2, gone := (letGo e s.m h0 false).1, d1 := true } by unfold dropsStep; simp only [if_true, HD1.out, Bool.false_eq_true, if_false])
                go_wp2_with fail
                refine (letGo_any e _ l s.m (by ((repeat' (first | (with_reducible assumption) | (with_reducible apply MemAt.drew) | (with_reducible apply MemAt.drewN) | (with_reducible apply MemAt.alloc) | (with_reducible apply MemAt.setN))); all_goals (first | assumption | (simp only []; assumption) | (refine nl _ ?_; first | omega | (simp only []; omega) | (simp; omega))))) h0 false (HOK.out s HM.out HD1.out)).mono ?_
                rintro r w1 ⟨rfl, h1', f1⟩
                have bE := At.fr (b := wa.heap.size) (t := 30) (vs := e.arr l) (by ((repeat' (first | (with_reducible assumption) | (with_reducible apply At.drew) | (with_reducible apply At.drewN) | (with_reducible refine At.newAt ?_; (simp; done)) | (with_reducible apply At.alloc) | (with_reducible apply At.set) | (with_reducible apply At.setOther))); all_goals (first | assumption | (apply Ne.symm; assumption) | omega | (simp only []; omega) | (simp; done) | (simp; omega)))) f1 nE
                have bO := At.fr (b := w3.heap.size) (t := 36) (vs := s.out.arr) (by ((repeat' (first | (with_reducible assumption) | (with_reducible apply At.drew) | (with_reducible apply At.drewN) | (with_reducible refine At.newAt ?_; (simp; done)) | (with_reducible apply At.alloc) | (with_reducible apply At.set) | (with_reducible apply At.setOther))); all_goals (first | assumption | (apply Ne.symm; assumption) | omega | (simp only []; omega) | (simp; done) | (simp; omega)))) f1 nO
                have bG := At.fr (b := (w3.heap.size + 1)) (t := 36) (vs := s.gone.arr) (by ((repeat' (first | (with_reducible assumption) | (with_reducible apply At.drew) | (with_reducible apply At.drewN) | (with_reducible refine At.newAt ?_; (simp; done)) | (with_reducible apply At.alloc) | (with_reducible apply At.set) | (with_reducible apply At.setOther))); all_goals (first | assumption | (apply Ne.symm; assumption) | omega | (simp only []; omega) | (simp; done) | (simp; omega)))) f1 nG
                have bD := At.fr (b := (w3.heap.size + 1 + 1)) (t := 46) (vs := #[.bool false, .bool false]) (by ((repeat' (first | (with_reducible assumption) | (with_reducible apply At.drew) | (with_reducible apply At.drewN) | (with_reducible refine At.newAt ?_; (simp; done)) | (with_reducible apply At.alloc) | (with_reducible apply At.set) | (with_reducible apply At.setOther))); all_goals (first | assumption | (apply Ne.symm; assumption) | omega | (simp only []; omega) | (simp; done) | (simp; omega)))) f1 nD
                have hA1 := AccessAt.fr (hA.fr (S := []) (by ((repeat' (first | (with_reducible assumption) | (with_reducible exact Fr.refl _ _) | (with_reducible refine Fr.drew ?_) | (with_reducible refine Fr.drewN ?_ _) | (with_reducible refine Fr.alloc ?_ _) | (with_reducible refine Fr.setCell ?_ ?_ _))); all_goals (first | (left; simp only [List.mem_cons, true_or, or_true]; done) | (left; simp only [List.mem_cons, List.mem_append, true_or, or_true]; done) | (right; simp only []; omega) | (right; simp; done) | (right; simp; omega) | (left; simp; done)))) (by simp)) f1 (fun x hx => (HF.out x hx).1)
                have F2 := Fr.trans' (S := []) (a := w) (by ((repeat' (first | (with_reducible assumption) | (with_reducible exact Fr.refl _ _) | (with_reducible refine Fr.drew ?_) | (with_reducible refine Fr.drewN ?_ _) | (with_reducible refine Fr.alloc ?_ _) | (with_reducible refine Fr.setCell ?_ ?_ _))); all_goals (first | (left; simp only [List.mem_cons, true_or, or_true]; done) | (left; simp only [List.mem_cons, List.mem_append, true_or, or_true]; done) | (right; simp only []; omega) | (right; simp; done) | (right; simp; omega) | (left; simp; done)))) f1 HLN.out
                have cE := bE.cell
                have lE := bE.lt
                have lD := bD.lt
                have cO := bO.cell
                have cG := bG.cell
                have gG := bG.frozen
                have cD := bD.cell
                have gD := bD.frozen
                clear f1
                go_wp2
                go_roundw
                case rel =>
                  refine ⟨k + 1, by omega, by simp, dropsStep e h0 true s, F, ?_, ?_, ?_, ?_, ?_, ?_, ?_, ?_, HF.out, HRUN'.out, HM'.out⟩
                  · rw [ES.out]; exact hA1.fr (S := [(w3.heap.size + 1), (w3.heap.size + 1 + 1)]) (by ((repeat' (first | (with_reducible assumption) | (with_reducible exact Fr.refl _ _) | (with_reducible refine Fr.drew ?_) | (with_reducible refine Fr.drewN ?_ _) | (with_reducible refine Fr.alloc ?_ _) | (with_reducible refine Fr.setCell ?_ ?_ _))); all_goals (first | (left; simp only [List.mem_cons, true_or, or_true]; done) | (left; simp only [List.mem_cons, List.mem_append, true_or, or_true]; done) | (right; simp only []; omega) | (right; simp; done) | (right; simp; omega) | (left; simp; done)))) (fun x hx q => by simp only [List.mem_cons, List.not_mem_nil, or_false] at q; have := (HF.out x hx).2; omega)
                  · rw [ES.out]; exact OK.out
                  · rw [ES.out]; ((repeat' (first | (with_reducible assumption) | (with_reducible apply MemAt.drew) | (with_reducible apply MemAt.drewN) | (with_reducible apply MemAt.alloc) | (with_reducible apply MemAt.setN))); all_goals (first | assumption | (simp only []; assumption) | (refine nl _ ?_; first | omega | (simp only []; omega) | (simp; omega))))
                  · ((repeat' (first | (with_reducible assumption) | (with_reducible apply At.drew) | (with_reducible apply At.drewN) | (with_reducible refine At.newAt ?_; (simp; done)) | (with_reducible apply At.alloc) | (with_reducible apply At.set) | (with_reducible apply At.setOther))); all_goals (first | assumption | (apply Ne.symm; assumption) | omega | (simp only []; omega) | (simp; done) | (simp; omega)))
                  · rw [ES.out]; ((repeat' (first | (with_reducible assumption) | (with_reducible apply At.drew) | (with_reducible apply At.drewN) | (with_reducible refine At.newAt ?_; (simp; done)) | (with_reducible apply At.alloc) | (with_reducible apply At.set) | (with_reducible apply At.setOther))); all_goals (first | assumption | (apply Ne.symm; assumption) | omega | (simp only []; omega) | (simp; done) | (simp; omega)))
                  · rw [ES.out]; (refine At.to (by ((repeat' (first | (with_reducible assumption) | (with_reducible apply At.drew) | (with_reducible apply At.drewN) | (with_reducible refine At.newAt ?_; (simp; done)) | (with_reducible apply At.alloc) | (with_reducible apply At.set) | (with_reducible apply At.setOther))); all_goals (first | assumption | (apply Ne.symm; assumption) | omega | (simp only []; omega) | (simp; done) | (simp; omega)))) ?_; (first | rfl | (simp [inc]; done) | (simp [inc, IntWalk.i64_left]; done)))
                  · rw [ES.out, HD0.out]; (refine At.to (by ((repeat' (first | (with_reducible assumption) | (with_reducible apply At.drew) | (with_reducible apply At.drewN) | (with_reducible refine At.newAt ?_; (simp; done)) | (with_reducible apply At.alloc) | (with_reducible apply At.set) | (with_reducible apply At.setOther))); all_goals (first | assumption | (apply Ne.symm; assumption) | omega | (simp only []; omega) | (simp; done) | (simp; omega)))) ?_; (first | rfl | (simp [inc]; done) | (simp [inc, IntWalk.i64_left]; done)))
                  · ((repeat' (first | (with_reducible assumption) | (with_reducible exact Fr.refl _ _) | (with_reducible refine Fr.drew ?_) | (with_reducible refine Fr.drewN ?_ _) | (with_reducible refine Fr.alloc ?_ _) | (with_reducible refine Fr.setCell ?_ ?_ _))); all_goals (first | (left; simp only [List.mem_cons, true_or, or_true]; done) | (left; simp only [List.mem_cons, List.mem_append, true_or, or_true]; done) | (right; simp only []; omega) | (right; simp; done) | (right; simp; omega) | (left; simp; done)))
                case measure => simp [intOf]; omega
          | false =>
            by_cases hA1 : k < len1 ∧ k < 60
            · obtain ⟨ba, off, rfl, hba, hc⟩ := HROW.out k hA1.1
              have hc' : wr.cell? ⟨ba, off + k, none⟩ = some (.int .i64 (picks.getD k 0)) := by
                rw [← hc]; exact Fr.cellOld F1 hba
              obtain ⟨v, hv⟩ : ∃ v, picks.getD k 0 = v := ⟨_, rfl⟩
              rw [hv] at hc'
              have HV := hid hv
              clear hv
              have HA1 := hid hA1
              have i1 : (k : Int) < len1 := by omega
              have i2 : (k : Int) < 60 := by omega
              clear hA1 hc
              have HP := hid hp
              have e1 : bits .and .i64 v 1 = 0 := by
                have := HP.out
                unfold pickOf at this
                rw [if_pos ⟨by rw [HLEN.out]; exact HA1.out.1, HA1.out.2⟩, HV.out] at this
                simp only [decide_eq_false_iff_not] at this
                rw [and1_i64]; omega
              clear hp
              have HRUN' : Hid (dropsLoop e h0 picks (200 - (k + 1)) (k + 1) (dropsStep e h0 false s) = dropsLoop e h0 picks 200 0 s0) := hid (by
                rw [← HRUN.out, show 200 - k = (200 - (k + 1)) + 1 by omega, dropsLoop, if_neg (by rw [HD0.out, HD1.out]; decide), HP.out])
              have HM' : Hid (dropsStep e h0 false s ∈ R) := hid (HCL.out s HM.out false)
              go_wp2_with fail
              refine (access_any e _ l s.m (by ((repeat' (first | (with_reducible assumption) | (with_reducible apply MemAt.drew) | (with_reducible apply MemAt.drewN) | (with_reducible apply MemAt.alloc) | (with_reducible apply MemAt.setN))); all_goals (first | assumption | (simp only []; assumption) | (refine nl _ ?_; first | omega | (simp only []; omega) | (simp; omega))))) s.a b F (hA.fr (S := []) (by ((repeat' (first | (with_reducible assumption) | (with_reducible exact Fr.refl _ _) | (with_reducible refine Fr.drew ?_) | (with_reducible refine Fr.drewN ?_ _) | (with_reducible refine Fr.alloc ?_ _) | (with_reducible refine Fr.setCell ?_ ?_ _))); all_goals (first | (left; simp only [List.mem_cons, true_or, or_true]; done) | (left; simp only [List.mem_cons, List.mem_append, true_or, or_true]; done) | (right; simp only []; omega) | (right; simp; done) | (right; simp; omega) | (left; simp; done)))) (by simp)) (fun x hx => (HF.out x hx).1) OK.out).mono ?_
              rintro r w1 ⟨F', rfl, hA', h1', f1, hF'⟩
              have nin : ∀ q, q ∉ l.list → (q = wa.heap.size ∨ q = w3.heap.size ∨ q = (w3.heap.size + 1) ∨ q = (w3.heap.size + 1 + 1)) → q ∉ F ++ l.list := fun q h1 h2 hm => by
                rw [List.mem_append] at hm
                rcases hm with hm | hm
                · have := (HF.out q hm).2; omega
                · exact h1 hm
              have bE := At.fr (b := wa.heap.size) (t := 30) (vs := e.arr l) (by ((repeat' (first | (with_reducible assumption) | (with_reducible apply At.drew) | (with_reducible apply At.drewN) | (with_reducible refine At.newAt ?_; (simp; done)) | (with_reducible apply At.alloc) | (with_reducible apply At.set) | (with_reducible apply At.setOther))); all_goals (first | assumption | (apply Ne.symm; assumption) | omega | (simp only []; omega) | (simp; done) | (simp; omega)))) f1 (nin _ nE (by simp))
              have bO := At.fr (b := w3.heap.size) (t := 36) (vs := s.out.arr) (by ((repeat' (first | (with_reducible assumption) | (with_reducible apply At.drew) | (with_reducible apply At.drewN) | (with_reducible refine At.newAt ?_; (simp; done)) | (with_reducible apply At.alloc) | (with_reducible apply At.set) | (with_reducible apply At.setOther))); all_goals (first | assumption | (apply Ne.symm; assumption) | omega | (simp only []; omega) | (simp; done) | (simp; omega)))) f1 (nin _ nO (by simp))
              have bG := At.fr (b := (w3.heap.size + 1)) (t := 36) (vs := s.gone.arr) (by ((repeat' (first | (with_reducible assumption) | (with_reducible apply At.drew) | (with_reducible apply At.drewN) | (with_reducible refine At.newAt ?_; (simp; done)) | (with_reducible apply At.alloc) | (with_reducible apply At.set) | (with_reducible apply At.setOther))); all_goals (first | assumption | (apply Ne.symm; assumption) | omega | (simp only []; omega) | (simp; done) | (simp; omega)))) f1 (nin _ nG (by simp))
              have bD := At.fr (b := (w3.heap.size + 1 + 1)) (t := 46) (vs := #[.bool false, .bool false]) (by ((repeat' (first | (with_reducible assumption) | (with_reducible apply At.drew) | (with_reducible apply At.drewN) | (with_reducible refine At.newAt ?_; (simp; done)) | (with_reducible apply At.alloc) | (with_reducible apply At.set) | (with_reducible apply At.setOther))); all_goals (first | assumption | (apply Ne.symm; assumption) | omega | (simp only []; omega) | (simp; done) | (simp; omega)))) f1 (nin _ nD (by simp))
              have F2 := Fr.trans' (S := []) (a := w) (by ((repeat' (first | (with_reducible assumption) | (with_reducible exact Fr.refl _ _) | (with_reducible refine Fr.drew ?_) | (with_reducible refine Fr.drewN ?_ _) | (with_reducible refine Fr.alloc ?_ _) | (with_reducible refine Fr.setCell ?_ ?_ _))); all_goals (first | (left; simp only [List.mem_cons, true_or, or_true]; done) | (left; simp only [List.mem_cons, List.mem_append, true_or, or_true]; done) | (right; simp only []; omega) | (right; simp; done) | (right; simp; omega) | (left; simp; done)))) f1 (fun x hx hxw => by
                rw [List.mem_append] at hx
                rcases hx with hx | hx
                · have := (HF.out x hx).2; omega
                · exact HLN.out x hx hxw)
              have HFn : Hid (∀ x ∈ F', x ∉ l.list ∧ w.heap.size ≤ x ∧ x ≠ wa.heap.size ∧ x ≠ w3.heap.size ∧ x ≠ (w3.heap.size + 1) ∧ x ≠ (w3.heap.size + 1 + 1)) := hid (fun x hx => by
                rcases hF' x hx with hx | hx
                · exact HF.out x hx
                · (try simp only [World.size_drew, World.size_drewN] at hx)
                  exact ⟨nl x (by omega), by omega, by omega, by omega, by omega, by omega⟩)
              have cE := bE.cell
              have lE := bE.lt
              have lD := bD.lt
              have cO := bO.cell
              have gO := bO.frozen
              have cG := bG.cell
              have cD := bD.cell
              have gD := bD.frozen
              clear f1 hF' nin
              cases hd : (s.a.step e s.m).2.2 with
              | false =>
                have HD := hid hd
                clear hd
                have ES := hid (show dropsStep e h0 false s = { s with a := (s.a.step e s.m).1, m := (s.a.step e s.m).2.1 } by unfold dropsStep; simp only [HD0.out, HD.out, Bool.false_eq_true, if_false])
                go_wp2
                go_roundw
                case rel =>
                  refine ⟨k + 1, by omega, by simp, dropsStep e h0 false s, F', ?_, ?_, ?_, ?_, ?_, ?_, ?_, ?_, HFn.out, HRUN'.out, HM'.out⟩
                  · rw [ES.out]; exact hA'.fr (S := [(w3.heap.size + 1 + 1)]) (by ((repeat' (first | (with_reducible assumption) | (with_reducible exact Fr.refl _ _) | (with_reducible refine Fr.drew ?_) | (with_reducible refine Fr.drewN ?_ _) | (with_reducible refine Fr.alloc ?_ _) | (with_reducible refine Fr.setCell ?_ ?_ _))); all_goals (first | (left; simp only [List.mem_cons, true_or, or_true]; done) | (left; simp only [List.mem_cons, List.mem_append, true_or, or_true]; done) | (right; simp only []; omega) | (right; simp; done) | (right; simp; omega) | (left; simp; done)))) (fun x hx q => by simp only [List.mem_cons, List.not_mem_nil, or_false] at q; have := (HFn.out x hx).2; omega)
                  · rw [ES.out]; exact OK.out.step e s.m
                  · rw [ES.out]; ((repeat' (first | (with_reducible assumption) | (with_reducible apply MemAt.drew) | (with_reducible apply MemAt.drewN) | (with_reducible apply MemAt.alloc) | (with_reducible apply MemAt.setN))); all_goals (first | assumption | (simp only []; assumption) | (refine nl _ ?_; first | omega | (simp only []; omega) | (simp; omega))))
                  · ((repeat' (first | (with_reducible assumption) | (with_reducible apply At.drew) | (with_reducible apply At.drewN) | (with_reducible refine At.newAt ?_; (simp; done)) | (with_reducible apply At.alloc) | (with_reducible apply At.set) | (with_reducible apply At.setOther))); all_goals (first | assumption | (apply Ne.symm; assumption) | omega | (simp only []; omega) | (simp; done) | (simp; omega)))
                  · rw [ES.out]; ((repeat' (first | (with_reducible assumption) | (with_reducible apply At.drew) | (with_reducible apply At.drewN) | (with_reducible refine At.newAt ?_; (simp; done)) | (with_reducible apply At.alloc) | (with_reducible apply At.set) | (with_reducible apply At.setOther))); all_goals (first | assumption | (apply Ne.symm; assumption) | omega | (simp only []; omega) | (simp; done) | (simp; omega)))
                  · rw [ES.out]; ((repeat' (first | (with_reducible assumption) | (with_reducible apply At.drew) | (with_reducible apply At.drewN) | (with_reducible refine At.newAt ?_; (simp; done)) | (with_reducible apply At.alloc) | (with_reducible apply At.set) | (with_reducible apply At.setOther))); all_goals (first | assumption | (apply Ne.symm; assumption) | omega | (simp only []; omega) | (simp; done) | (simp; omega)))
                  · rw [ES.out, HD0.out, HD1.out]; (refine At.to (by ((repeat' (first | (with_reducible assumption) | (with_reducible apply At.drew) | (with_reducible apply At.drewN) | (with_reducible refine At.newAt ?_; (simp; done)) | (with_reducible apply At.alloc) | (with_reducible apply At.set) | (with_reducible apply At.setOther))); all_goals (first | assumption | (apply Ne.symm; assumption) | omega | (simp only []; omega) | (simp; done) | (simp; omega)))) ?_; (first | rfl | (simp [inc]; done) | (simp [inc, IntWalk.i64_left]; done)))
                  · ((repeat' (first | (with_reducible assumption) | (with_reducible exact Fr.refl _ _) | (with_reducible refine Fr.drew ?_) | (with_reducible refine Fr.drewN ?_ _) | (with_reducible refine Fr.alloc ?_ _) | (with_reducible refine Fr.setCell ?_ ?_ _))); all_goals (first | (left; simp only [List.mem_cons, true_or, or_true]; done) | (left; simp only [List.mem_cons, List.mem_append, true_or, or_true]; done) | (right; simp only []; omega) | (right; simp; done) | (right; simp; omega) | (left; simp; done)))
                case measure => simp [intOf]; omega
              | true =>
                have HD := hid hd
                clear hd
                have ES := hid (show dropsStep e h0 false s = { s with a := (s.a.step e s.m).1, m := (s.a.step e s.m).2.1, d0 := true, out := (s.a.step e s.m).1.out } by unfold dropsStep; simp only [HD0.out, HD.out, Bool.false_eq_true, if_false, if_true])
                go_wp2_with fail
                refine (access_done _ _ b F' (hA'.fr (S := [(w3.heap.size + 1 + 1)]) (by ((repeat' (first | (with_reducible assumption) | (with_reducible exact Fr.refl _ _) | (with_reducible refine Fr.drew ?_) | (with_reducible refine Fr.drewN ?_ _) | (with_reducible refine Fr.alloc ?_ _) | (with_reducible refine Fr.setCell ?_ ?_ _))); all_goals (first | (left; simp only [List.mem_cons, true_or, or_true]; done) | (left; simp only [List.mem_cons, List.mem_append, true_or, or_true]; done) | (right; simp only []; omega) | (right; simp; done) | (right; simp; omega) | (left; simp; done)))) (fun x hx q => by simp only [List.mem_cons, List.not_mem_nil, or_false] at q; have := (HFn.out x hx).2; omega))).mono ?_
                rintro r w2 ⟨rfl, f2⟩
                have hA' := AccessAt.fr (hA'.fr (S := [(w3.heap.size + 1 + 1)]) (by ((repeat' (first | (with_reducible assumption) | (with_reducible exact Fr.refl _ _) | (with_reducible refine Fr.drew ?_) | (with_reducible refine Fr.drewN ?_ _) | (with_reducible refine Fr.alloc ?_ _) | (with_reducible refine Fr.setCell ?_ ?_ _))); all_goals (first | (left; simp only [List.mem_cons, true_or, or_true]; done) | (left; simp only [List.mem_cons, List.mem_append, true_or, or_true]; done) | (right; simp only []; omega) | (right; simp; done) | (right; simp; omega) | (left; simp; done)))) (fun x hx q => by simp only [List.mem_cons, List.not_mem_nil, or_false] at q; have := (HFn.out x hx).2; omega)) f2 (by simp)
                have h1' := MemAt.frl (l := l) (by ((repeat' (first | (with_reducible assumption) | (with_reducible apply MemAt.drew) | (with_reducible apply MemAt.drewN) | (with_reducible apply MemAt.alloc) | (with_reducible apply MemAt.setN))); all_goals (first | assumption | (simp only []; assumption) | (refine nl _ ?_; first | omega | (simp only []; omega) | (simp; omega))))) f2 (by simp)
                have bE := At.fr (b := wa.heap.size) (t := 30) (vs := e.arr l) (by ((repeat' (first | (with_reducible assumption) | (with_reducible apply At.drew) | (with_reducible apply At.drewN) | (with_reducible refine At.newAt ?_; (simp; done)) | (with_reducible apply At.alloc) | (with_reducible apply At.set) | (with_reducible apply At.setOther))); all_goals (first | assumption | (apply Ne.symm; assumption) | omega | (simp only []; omega) | (simp; done) | (simp; omega)))) f2 (by simp)
                have bO := At.fr (b := w3.heap.size) (t := 36) (vs := s.out.arr) (by ((repeat' (first | (with_reducible assumption) | (with_reducible apply At.drew) | (with_reducible apply At.drewN) | (with_reducible refine At.newAt ?_; (simp; done)) | (with_reducible apply At.alloc) | (with_reducible apply At.set) | (with_reducible apply At.setOther))); all_goals (first | assumption | (apply Ne.symm; assumption) | omega | (simp only []; omega) | (simp; done) | (simp; omega)))) f2 (by simp)
                have bG := At.fr (b := (w3.heap.size + 1)) (t := 36) (vs := s.gone.arr) (by ((repeat' (first | (with_reducible assumption) | (with_reducible apply At.drew) | (with_reducible apply At.drewN) | (with_reducible refine At.newAt ?_; (simp; done)) | (with_reducible apply At.alloc) | (with_reducible apply At.set) | (with_reducible apply At.setOther))); all_goals (first | assumption | (apply Ne.symm; assumption) | omega | (simp only []; omega) | (simp; done) | (simp; omega)))) f2 (by simp)
                have bD := At.fr (b := (w3.heap.size + 1 + 1)) (t := 46) (vs := #[.bool true, .bool false]) (by first | ((repeat' (first | (with_reducible assumption) | (with_reducible apply At.drew) | (with_reducible apply At.drewN) | (with_reducible refine At.newAt ?_; (simp; done)) | (with_reducible apply At.alloc) | (with_reducible apply At.set) | (with_reducible apply At.setOther))); all_goals (first | assumption | (apply Ne.symm; assumption) | omega | (simp only []; omega) | (simp; done) | (simp; omega))) | exact At.to (by ((repeat' (first | (with_reducible assumption) | (with_reducible apply At.drew) | (with_reducible apply At.drewN) | (with_reducible refine At.newAt ?_; (simp; done)) | (with_reducible apply At.alloc) | (with_reducible apply At.set) | (with_reducible apply At.setOther))); all_goals (first | assumption | (apply Ne.symm; assumption) | omega | (simp only []; omega) | (simp; done) | (simp; omega)))) (by (first | rfl | (simp [inc]; done) | (simp [inc, IntWalk.i64_left]; done)))) f2 (by simp)
                have F2 := Fr.sub (S := []) (a := w) (by ((repeat' (first | (with_reducible assumption) | (with_reducible exact Fr.refl _ _) | (with_reducible refine Fr.drew ?_) | (with_reducible refine Fr.drewN ?_ _) | (with_reducible refine Fr.alloc ?_ _) | (with_reducible refine Fr.setCell ?_ ?_ _))); all_goals (first | (left; simp only [List.mem_cons, true_or, or_true]; done) | (left; simp only [List.mem_cons, List.mem_append, true_or, or_true]; done) | (right; simp only []; omega) | (right; simp; done) | (right; simp; omega) | (left; simp; done)))) f2 (by simp)
                have cE := bE.cell
                have lE := bE.lt
                have lD := bD.lt
                have cO := bO.cell
                have gO := bO.frozen
                clear f2
                go_wp2
                go_roundw
                case rel =>
                  refine ⟨k + 1, by omega, by simp, dropsStep e h0 false s, F', ?_, ?_, ?_, ?_, ?_, ?_, ?_, ?_, HFn.out, HRUN'.out, HM'.out⟩
                  · rw [ES.out]; exact hA'.fr (S := [w3.heap.size]) (by ((repeat' (first | (with_reducible assumption) | (with_reducible exact Fr.refl _ _) | (with_reducible refine Fr.drew ?_) | (with_reducible refine Fr.drewN ?_ _) | (with_reducible refine Fr.alloc ?_ _) | (with_reducible refine Fr.setCell ?_ ?_ _))); all_goals (first | (left; simp only [List.mem_cons, true_or, or_true]; done) | (left; simp only [List.mem_cons, List.mem_append, true_or, or_true]; done) | (right; simp only []; omega) | (right; simp; done) | (right; simp; omega) | (left; simp; done)))) (fun x hx q => by simp only [List.mem_cons, List.not_mem_nil, or_false] at q; have := (HFn.out x hx).2; omega)
                  · rw [ES.out]; exact OK.out.step e s.m
                  · rw [ES.out]; ((repeat' (first | (with_reducible assumption) | (with_reducible apply MemAt.drew) | (with_reducible apply MemAt.drewN) | (with_reducible apply MemAt.alloc) | (with_reducible apply MemAt.setN))); all_goals (first | assumption | (simp only []; assumption) | (refine nl _ ?_; first | omega | (simp only []; omega) | (simp; omega))))
                  · ((repeat' (first | (with_reducible assumption) | (with_reducible apply At.drew) | (with_reducible apply At.drewN) | (with_reducible refine At.newAt ?_; (simp; done)) | (with_reducible apply At.alloc) | (with_reducible apply At.set) | (with_reducible apply At.setOther))); all_goals (first | assumption | (apply Ne.symm; assumption) | omega | (simp only []; omega) | (simp; done) | (simp; omega)))
                  · rw [ES.out]; (refine At.to (by ((repeat' (first | (with_reducible assumption) | (with_reducible apply At.drew) | (with_reducible apply At.drewN) | (with_reducible refine At.newAt ?_; (simp; done)) | (with_reducible apply At.alloc) | (with_reducible apply At.set) | (with_reducible apply At.setOther))); all_goals (first | assumption | (apply Ne.symm; assumption) | omega | (simp only []; omega) | (simp; done) | (simp; omega)))) ?_; (first | rfl | (simp [inc]; done) | (simp [inc, IntWalk.i64_left]; done)))
                  · rw [ES.out]; ((repeat' (first | (with_reducible assumption) | (with_reducible apply At.drew) | (with_reducible apply At.drewN) | (with_reducible refine At.newAt ?_; (simp; done)) | (with_reducible apply At.alloc) | (with_reducible apply At.set) | (with_reducible apply At.setOther))); all_goals (first | assumption | (apply Ne.symm; assumption) | omega | (simp only []; omega) | (simp; done) | (simp; omega)))
                  · rw [ES.out, HD1.out]; ((repeat' (first | (with_reducible assumption) | (with_reducible apply At.drew) | (with_reducible apply At.drewN) | (with_reducible refine At.newAt ?_; (simp; done)) | (with_reducible apply At.alloc) | (with_reducible apply At.set) | (with_reducible apply At.setOther))); all_goals (first | assumption | (apply Ne.symm; assumption) | omega | (simp only []; omega) | (simp; done) | (simp; omega)))
                  · ((repeat' (first | (with_reducible assumption) | (with_reducible exact Fr.refl _ _) | (with_reducible refine Fr.drew ?_) | (with_reducible refine Fr.drewN ?_ _) | (with_reducible refine Fr.alloc ?_ _) | (with_reducible refine Fr.setCell ?_ ?_ _))); all_goals (first | (left; simp only [List.mem_cons, true_or, or_true]; done) | (left; simp only [List.mem_cons, List.mem_append, true_or, or_true]; done) | (right; simp only []; omega) | (right; simp; done) | (right; simp; omega) | (left; simp; done)))
                case measure => simp [intOf]; omega
            · have HA1 := hid hA1
              have dAB : (len1 : Int) ≤ k ∨ ((k : Int) < len1 ∧ (60 : Int) ≤ k) := by omega
              clear hA1
              rcases dAB with dA | ⟨dA, dB⟩
              all_goals
                have HP := hid hp
                have e1 : bits .and .i64 (k : Int) 1 = 0 := by
                  have := HP.out
                  unfold pickOf at this
                  rw [if_neg (by rw [HLEN.out]; exact HA1.out)] at this
                  simp only [decide_eq_false_iff_not] at this
                  rw [and1_i64]; omega
                clear hp
                have HRUN' : Hid (dropsLoop e h0 picks (200 - (k + 1)) (k + 1) (dropsStep e h0 false s) = dropsLoop e h0 picks 200 0 s0) := hid (by
                  rw [← HRUN.out, show 200 - k = (200 - (k + 1)) + 1 by omega, dropsLoop, if_neg (by rw [HD0.out, HD1.out]; decide), HP.out])
                have HM' : Hid (dropsStep e h0 false s ∈ R) := hid (HCL.out s HM.out false)
                go_wp2_with fail
                refine (access_any e _ l s.m (by ((repeat' (first | (with_reducible assumption) | (with_reducible apply MemAt.drew) | (with_reducible apply MemAt.drewN) | (with_reducible apply MemAt.alloc) | (with_reducible apply MemAt.setN))); all_goals (first | assumption | (simp only []; assumption) | (refine nl _ ?_; first | omega | (simp only []; omega) | (simp; omega))))) s.a b F (hA.fr (S := []) (by ((repeat' (first | (with_reducible assumption) | (with_reducible exact Fr.refl _ _) | (with_reducible refine Fr.drew ?_) | (with_reducible refine Fr.drewN ?_ _) | (with_reducible refine Fr.alloc ?_ _) | (with_reducible refine Fr.setCell ?_ ?_ _))); all_goals (first | (left; simp only [List.mem_cons, true_or, or_true]; done) | (left; simp only [List.mem_cons, List.mem_append, true_or, or_true]; done) | (right; simp only []; omega) | (right; simp; done) | (right; simp; omega) | (left; simp; done)))) (by simp)) (fun x hx => (HF.out x hx).1) OK.out).mono ?_
                rintro r w1 ⟨F', rfl, hA', h1', f1, hF'⟩
                have nin : ∀ q, q ∉ l.list → (q = wa.heap.size ∨ q = w3.heap.size ∨ q = (w3.heap.size + 1) ∨ q = (w3.heap.size + 1 + 1)) → q ∉ F ++ l.list := fun q h1 h2 hm => by
                  rw [List.mem_append] at hm
                  rcases hm with hm | hm
                  · have := (HF.out q hm).2; omega
                  · exact h1 hm
                have bE := At.fr (b := wa.heap.size) (t := 30) (vs := e.arr l) (by ((repeat' (first | (with_reducible assumption) | (with_reducible apply At.drew) | (with_reducible apply At.drewN) | (with_reducible refine At.newAt ?_; (simp; done)) | (with_reducible apply At.alloc) | (with_reducible apply At.set) | (with_reducible apply At.setOther))); all_goals (first | assumption | (apply Ne.symm; assumption) | omega | (simp only []; omega) | (simp; done) | (simp; omega)))) f1 (nin _ nE (by simp))
                have bO := At.fr (b := w3.heap.size) (t := 36) (vs := s.out.arr) (by ((repeat' (first | (with_reducible assumption) | (with_reducible apply At.drew) | (with_reducible apply At.drewN) | (with_reducible refine At.newAt ?_; (simp; done)) | (with_reducible apply At.alloc) | (with_reducible apply At.set) | (with_reducible apply At.setOther))); all_goals (first | assumption | (apply Ne.symm; assumption) | omega | (simp only []; omega) | (simp; done) | (simp; omega)))) f1 (nin _ nO (by simp))
                have bG := At.fr (b := (w3.heap.size + 1)) (t := 36) (vs := s.gone.arr) (by ((repeat' (first | (with_reducible assumption) | (with_reducible apply At.drew) | (with_reducible apply At.drewN) | (with_reducible refine At.newAt ?_; (simp; done)) | (with_reducible apply At.alloc) | (with_reducible apply At.set) | (with_reducible apply At.setOther))); all_goals (first | assumption | (apply Ne.symm; assumption) | omega | (simp only []; omega) | (simp; done) | (simp; omega)))) f1 (nin _ nG (by simp))
                have bD := At.fr (b := (w3.heap.size + 1 + 1)) (t := 46) (vs := #[.bool false, .bool false]) (by ((repeat' (first | (with_reducible assumption) | (with_reducible apply At.drew) | (with_reducible apply At.drewN) | (with_reducible refine At.newAt ?_; (simp; done)) | (with_reducible apply At.alloc) | (with_reducible apply At.set) | (with_reducible apply At.setOther))); all_goals (first | assumption | (apply Ne.symm; assumption) | omega | (simp only []; omega) | (simp; done) | (simp; omega)))) f1 (nin _ nD (by simp))
                have F2 := Fr.trans' (S := []) (a := w) (by ((repeat' (first | (with_reducible assumption) | (with_reducible exact Fr.refl _ _) | (with_reducible refine Fr.drew ?_) | (with_reducible refine Fr.drewN ?_ _) | (with_reducible refine Fr.alloc ?_ _) | (with_reducible refine Fr.setCell ?_ ?_ _))); all_goals (first | (left; simp only [List.mem_cons, true_or, or_true]; done) | (left; simp only [List.mem_cons, List.mem_append, true_or, or_true]; done) | (right; simp only []; omega) | (right; simp; done) | (right; simp; omega) | (left; simp; done)))) f1 (fun x hx hxw => by
                  rw [List.mem_append] at hx
                  rcases hx with hx | hx
                  · have := (HF.out x hx).2; omega
                  · exact HLN.out x hx hxw)
                have HFn : Hid (∀ x ∈ F', x ∉ l.list ∧ w.heap.size ≤ x ∧ x ≠ wa.heap.size ∧ x ≠ w3.heap.size ∧ x ≠ (w3.heap.size + 1) ∧ x ≠ (w3.heap.size + 1 + 1)) := hid (fun x hx => by
                  rcases hF' x hx with hx | hx
                  · exact HF.out x hx
                  · (try simp only [World.size_drew, World.size_drewN] at hx)
                    exact ⟨nl x (by omega), by omega, by omega, by omega, by omega, by omega⟩)
                have cE := bE.cell
                have lE := bE.lt
                have lD := bD.lt
                have cO := bO.cell
                have gO := bO.frozen
                have cG := bG.cell
                have cD := bD.cell
                have gD := bD.frozen
                clear f1 hF' nin
                cases hd : (s.a.step e s.m).2.2 with
                | false =>
                  have HD := hid hd
                  clear hd
                  have ES := hid (show dropsStep e h0 false s = { s with a := (s.a.step e s.m).1, m := (s.a.step e s.m).2.1 } by unfold dropsStep; simp only [HD0.out, HD.out, Bool.false_eq_true, if_false])
                  go_wp2
                  go_roundw
                  case rel =>
                    refine ⟨k + 1, by omega, by simp, dropsStep e h0 false s, F', ?_, ?_, ?_, ?_, ?_, ?_, ?_, ?_, HFn.out, HRUN'.out, HM'.out⟩
                    · rw [ES.out]; exact hA'.fr (S := [(w3.heap.size + 1 + 1)]) (by ((repeat' (first | (with_reducible assumption) | (with_reducible exact Fr.refl _ _) | (with_reducible refine Fr.drew ?_) | (with_reducible refine Fr.drewN ?_ _) | (with_reducible refine Fr.alloc ?_ _) | (with_reducible refine Fr.setCell ?_ ?_ _))); all_goals (first | (left; simp only [List.mem_cons, true_or, or_true]; done) | (left; simp only [List.mem_cons, List.mem_append, true_or, or_true]; done) | (right; simp only []; omega) | (right; simp; done) | (right; simp; omega) | (left; simp; done)))) (fun x hx q => by simp only [List.mem_cons, List.not_mem_nil, or_false] at q; have := (HFn.out x hx).2; omega)
                    · rw [ES.out]; exact OK.out.step e s.m
                    · rw [ES.out]; ((repeat' (first | (with_reducible assumption) | (with_reducible apply MemAt.drew) | (with_reducible apply MemAt.drewN) | (with_reducible apply MemAt.alloc) | (with_reducible apply MemAt.setN))); all_goals (first | assumption | (simp only []; assumption) | (refine nl _ ?_; first | omega | (simp only []; omega) | (simp; omega))))
                    · ((repeat' (first | (with_reducible assumption) | (with_reducible apply At.drew) | (with_reducible apply At.drewN) | (with_reducible refine At.newAt ?_; (simp; done)) | (with_reducible apply At.alloc) | (with_reducible apply At.set) | (with_reducible apply At.setOther))); all_goals (first | assumption | (apply Ne.symm; assumption) | omega | (simp only []; omega) | (simp; done) | (simp; omega)))
                    · rw [ES.out]; ((repeat' (first | (with_reducible assumption) | (with_reducible apply At.drew) | (with_reducible apply At.drewN) | (with_reducible refine At.newAt ?_; (simp; done)) | (with_reducible apply At.alloc) | (with_reducible apply At.set) | (with_reducible apply At.setOther))); all_goals (first | assumption | (apply Ne.symm; assumption) | omega | (simp only []; omega) | (simp; done) | (simp; omega)))
                    · rw [ES.out]; ((repeat' (first | (with_reducible assumption) | (with_reducible apply At.drew) | (with_reducible apply At.drewN) | (with_reducible refine At.newAt ?_; (simp; done)) | (with_reducible apply At.alloc) | (with_reducible apply At.set) | (with_reducible apply At.setOther))); all_goals (first | assumption | (apply Ne.symm; assumption) | omega | (simp only []; omega) | (simp; done) | (simp; omega)))
                    · rw [ES.out, HD0.out, HD1.out]; (refine At.to (by ((repeat' (first | (with_reducible assumption) | (with_reducible apply At.drew) | (with_reducible apply At.drewN) | (with_reducible refine At.newAt ?_; (simp; done)) | (with_reducible apply At.alloc) | (with_reducible apply At.set) | (with_reducible apply At.setOther))); all_goals (first | assumption | (apply Ne.symm; assumption) | omega | (simp only []; omega) | (simp; done) | (simp; omega)))) ?_; (first | rfl | (simp [inc]; done) | (simp [inc, IntWalk.i64_left]; done)))
                    · ((repeat' (first | (with_reducible assumption) | (with_reducible exact Fr.refl _ _) | (with_reducible refine Fr.drew ?_) | (with_reducible refine Fr.drewN ?_ _) | (with_reducible refine Fr.alloc ?_ _) | (with_reducible refine Fr.setCell ?_ ?_ _))); all_goals (first | (left; simp only [List.mem_cons, true_or, or_true]; done) | (left; simp only [List.mem_cons, List.mem_append, true_or, or_true]; done) | (right; simp only []; omega) | (right; simp; done) | (right; simp; omega) | (left; simp; done)))
                  case measure => simp [intOf]; omega
                | true =>
                  have HD := hid hd
                  clear hd
                  have ES := hid (show dropsStep e h0 false s = { s with a := (s.a.step e s.m).1, m := (s.a.step e s.m).2.1, d0 := true, out := (s.a.step e s.m).1.out } by unfold dropsStep; simp only [HD0.out, HD.out, Bool.false_eq_true, if_false, if_true])
                  go_wp2_with fail
                  refine (access_done _ _ b F' (hA'.fr (S := [(w3.heap.size + 1 + 1)]) (by ((repeat' (first | (with_reducible assumption) | (with_reducible exact Fr.refl _ _) | (with_reducible refine Fr.drew ?_) | (with_reducible refine Fr.drewN ?_ _) | (with_reducible refine Fr.alloc ?_ _) | (with_reducible refine Fr.setCell ?_ ?_ _))); all_goals (first | (left; simp only [List.mem_cons, true_or, or_true]; done) | (left; simp only [List.mem_cons, List.mem_append, true_or, or_true]; done) | (right; simp only []; omega) | (right; simp; done) | (right; simp; omega) | (left; simp; done)))) (fun x hx q => by simp only [List.mem_cons, List.not_mem_nil, or_false] at q; have := (HFn.out x hx).2; omega))).mono ?_
                  rintro r w2 ⟨rfl, f2⟩
                  have hA' := AccessAt.fr (hA'.fr (S := [(w3.heap.size + 1 + 1)]) (by ((repeat' (first | (with_reducible assumption) | (with_reducible exact Fr.refl _ _) | (with_reducible refine Fr.drew ?_) | (with_reducible refine Fr.drewN ?_ _) | (with_reducible refine Fr.alloc ?_ _) | (with_reducible refine Fr.setCell ?_ ?_ _))); all_goals (first | (left; simp only [List.mem_cons, true_or, or_true]; done) | (left; simp only [List.mem_cons, List.mem_append, true_or, or_true]; done) | (right; simp only []; omega) | (right; simp; done) | (right; simp; omega) | (left; simp; done)))) (fun x hx q => by simp only [List.mem_cons, List.not_mem_nil, or_false] at q; have := (HFn.out x hx).2; omega)) f2 (by simp)
                  have h1' := MemAt.frl (l := l) (by ((repeat' (first | (with_reducible assumption) | (with_reducible apply MemAt.drew) | (with_reducible apply MemAt.drewN) | (with_reducible apply MemAt.alloc) | (with_reducible apply MemAt.setN))); all_goals (first | assumption | (simp only []; assumption) | (refine nl _ ?_; first | omega | (simp only []; omega) | (simp; omega))))) f2 (by simp)
                  have bE := At.fr (b := wa.heap.size) (t := 30) (vs := e.arr l) (by ((repeat' (first | (with_reducible assumption) | (with_reducible apply At.drew) | (with_reducible apply At.drewN) | (with_reducible refine At.newAt ?_; (simp; done)) | (with_reducible apply At.alloc) | (with_reducible apply At.set) | (with_reducible apply At.setOther))); all_goals (first | assumption | (apply Ne.symm; assumption) | omega | (simp only []; omega) | (simp; done) | (simp; omega)))) f2 (by simp)
                  have bO := At.fr (b := w3.heap.size) (t := 36) (vs := s.out.arr) (by ((repeat' (first | (with_reducible assumption) | (with_reducible apply At.drew) | (with_reducible apply At.drewN) | (with_reducible refine At.newAt ?_; (simp; done)) | (with_reducible apply At.alloc) | (with_reducible apply At.set) | (with_reducible apply At.setOther))); all_goals (first | assumption | (apply Ne.symm; assumption) | omega | (simp only []; omega) | (simp; done) | (simp; omega)))) f2 (by simp)
                  have bG := At.fr (b := (w3.heap.size + 1)) (t := 36) (vs := s.gone.arr) (by ((repeat' (first | (with_reducible assumption) | (with_reducible apply At.drew) | (with_reducible apply At.drewN) | (with_reducible refine At.newAt ?_; (simp; done)) | (with_reducible apply At.alloc) | (with_reducible apply At.set) | (with_reducible apply At.setOther))); all_goals (first | assumption | (apply Ne.symm; assumption) | omega | (simp only []; omega) | (simp; done) | (simp; omega)))) f2 (by simp)
                  have bD := At.fr (b := (w3.heap.size + 1 + 1)) (t := 46) (vs := #[.bool true, .bool false]) (by first | ((repeat' (first | (with_reducible assumption) | (with_reducible apply At.drew) | (with_reducible apply At.drewN) | (with_reducible refine At.newAt ?_; (simp; done)) | (with_reducible apply At.alloc) | (with_reducible apply At.set) | (with_reducible apply At.setOther))); all_goals (first | assumption | (apply Ne.symm; assumption) | omega | (simp only []; omega) | (simp; done) | (simp; omega))) | exact At.to (by ((repeat' (first | (with_reducible assumption) | (with_reducible apply At.drew) | (with_reducible apply At.drewN) | (with_reducible refine At.newAt ?_; (simp; done)) | (with_reducible apply At.alloc) | (with_reducible apply At.set) | (with_reducible apply At.setOther))); all_goals (first | assumption | (apply Ne.symm; assumption) | omega | (simp only []; omega) | (simp; done) | (simp; omega)))) (by (first | rfl | (simp [inc]; done) | (simp [inc, IntWalk.i64_left]; done)))) f2 (by simp)
                  have F2 := Fr.sub (S := []) (a := w) (by ((repeat' (first | (with_reducible assumption) | (with_reducible exact Fr.refl _ _) | (with_reducible refine Fr.drew ?_) | (with_reducible refine Fr.drewN ?_ _) | (with_reducible refine Fr.alloc ?_ _) | (with_reducible refine Fr.setCell ?_ ?_ _))); all_goals (first | (left; simp only [List.mem_cons, true_or, or_true]; done) | (left; simp only [List.mem_cons, List.mem_append, true_or, or_true]; done) | (right; simp only []; omega) | (right; simp; done) | (right; simp; omega) | (left; simp; done)))) f2 (by simp)
                  have cE := bE.cell
                  have lE := bE.lt
                  have lD := bD.lt
                  have cO := bO.cell
                  have gO := bO.frozen
                  clear f2
                  go_wp2
                  go_roundw
                  case rel =>
                    refine ⟨k + 1, by omega, by simp, dropsStep e h0 false s, F', ?_, ?_, ?_, ?_, ?_, ?_, ?_, ?_, HFn.out, HRUN'.out, HM'.out⟩
                    · rw [ES.out]; exact hA'.fr (S := [w3.heap.size]) (by ((repeat' (first | (with_reducible assumption) | (with_reducible exact Fr.refl _ _) | (with_reducible refine Fr.drew ?_) | (with_reducible refine Fr.drewN ?_ _) | (with_reducible refine Fr.alloc ?_ _) | (with_reducible refine Fr.setCell ?_ ?_ _))); all_goals (first | (left; simp only [List.mem_cons, true_or, or_true]; done) | (left; simp only [List.mem_cons, List.mem_append, true_or, or_true]; done) | (right; simp only []; omega) | (right; simp; done) | (right; simp; omega) | (left; simp; done)))) (fun x hx q => by simp only [List.mem_cons, List.not_mem_nil, or_false] at q; have := (HFn.out x hx).2; omega)
                    · rw [ES.out]; exact OK.out.step e s.m
                    · rw [ES.out]; ((repeat' (first | (with_reducible assumption) | (with_reducible apply MemAt.drew) | (with_reducible apply MemAt.drewN) | (with_reducible apply MemAt.alloc) | (with_reducible apply MemAt.setN))); all_goals (first | assumption | (simp only []; assumption) | (refine nl _ ?_; first | omega | (simp only []; omega) | (simp; omega))))
                    · ((repeat' (first | (with_reducible assumption) | (with_reducible apply At.drew) | (with_reducible apply At.drewN) | (with_reducible refine At.newAt ?_; (simp; done)) | (with_reducible apply At.alloc) | (with_reducible apply At.set) | (with_reducible apply At.setOther))); all_goals (first | assumption | (apply Ne.symm; assumption) | omega | (simp only []; omega) | (simp; done) | (simp; omega)))
                    · rw [ES.out]; (refine At.to (by ((repeat' (first | (with_reducible assumption) | (with_reducible apply At.drew) | (with_reducible apply At.drewN) | (with_reducible refine At.newAt ?_; (simp; done)) | (with_reducible apply At.alloc) | (with_reducible apply At.set) | (with_reducible apply At.setOther))); all_goals (first | assumption | (apply Ne.symm; assumption) | omega | (simp only []; omega) | (simp; done) | (simp; omega)))) ?_; (first | rfl | (simp [inc]; done) | (simp [inc, IntWalk.i64_left]; done)))
                    · rw [ES.out]; ((repeat' (first | (with_reducible assumption) | (with_reducible apply At.drew) | (with_reducible apply At.drewN) | (with_reducible refine At.newAt ?_; (simp; done)) | (with_reducible apply At.alloc) | (with_reducible apply At.set) | (with_reducible apply At.setOther))); all_goals (first | assumption | (apply Ne.symm; assumption) | omega | (simp only []; omega) | (simp; done) | (simp; omega)))
                    · rw [ES.out, HD1.out]; ((repeat' (first | (with_reducible assumption) | (with_reducible apply At.drew) | (with_reducible apply At.drewN) | (with_reducible refine At.newAt ?_; (simp; done)) | (with_reducible apply At.alloc) | (with_reducible apply At.set) | (with_reducible apply At.setOther))); all_goals (first | assumption | (apply Ne.symm; assumption) | omega | (simp only []; omega) | (simp; done) | (simp; omega)))
                    · ((repeat' (first | (with_reducible assumption) | (with_reducible exact Fr.refl _ _) | (with_reducible refine Fr.drew ?_) | (with_reducible refine Fr.drewN ?_ _) | (with_reducible refine Fr.alloc ?_ _) | (with_reducible refine Fr.setCell ?_ ?_ _))); all_goals (first | (left; simp only [List.mem_cons, true_or, or_true]; done) | (left; simp only [List.mem_cons, List.mem_append, true_or, or_true]; done) | (right; simp only []; omega) | (right; simp; done) | (right; simp; omega) | (left; simp; done)))
                  case measure => simp [intOf]; omega
end Go.Proofs.Ytkgbifagledcaaa.FL
