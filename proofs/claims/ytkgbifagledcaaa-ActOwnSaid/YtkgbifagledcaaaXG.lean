/-
  What is Own: the walk.
-/
import Derived.Test.YtkgbifagledcaaaXF
namespace Go.Proofs.Ytkgbifagledcaaa.FL
open Go Go.RowKit
set_option linter.unusedVariables false
set_option linter.unusedSimpArgs false
set_option maxRecDepth 20000
set_option maxHeartbeats 4000000
attribute [local go_sem ↓] Go.wp_at_zero Go.wp_at_succ
attribute [local go_sem] fieldSlot0 fieldSlot1 fieldSlot2 fieldSlot3 fieldChunk0 fieldChunk1 fieldChunk3 fieldCell0
attribute [local go_sem] fieldDone0 fieldDone1 fieldDone2 fieldDone3

theorem own_and (x : Int) (k : Nat) (hk : k ≤ 62) : bits .and .i64 x ((2 : Int) ^ k - 1) = x % (2 : Int) ^ k := by
  have h := and_mask x k (by omega)
  have hp : (0 : Int) < (2 : Int) ^ k := by exact_mod_cast Nat.pow_pos (n := k) (show 0 < 2 by omega)
  have hle : (2 : Int) ^ k ≤ (2 : Int) ^ 62 := by exact_mod_cast Nat.pow_le_pow_right (show 0 < 2 by omega) hk
  have h1 : 0 ≤ x % (2 : Int) ^ k := Int.emod_nonneg x (by omega)
  have h2 : x % (2 : Int) ^ k < (2 : Int) ^ k := Int.emod_lt_of_pos x hp
  have e1 : IntKind.u64.wrap ((BitVec.ofInt 64 x &&& BitVec.ofInt 64 ((2 : Int) ^ k - 1)).toNat : Int) = x % (2 : Int) ^ k := h
  show IntKind.i64.wrap ((BitVec.ofInt 64 x &&& BitVec.ofInt 64 ((2 : Int) ^ k - 1)).toNat : Int) = _
  rw [IntKind.wrap_u64] at e1
  rw [IntKind.wrap_i64]
  have hb : ((BitVec.ofInt 64 x &&& BitVec.ofInt 64 ((2 : Int) ^ k - 1)).toNat : Int) < 18446744073709551616 := by
    have := (BitVec.ofInt 64 x &&& BitVec.ofInt 64 ((2 : Int) ^ k - 1)).isLt; omega
  omega
theorem own_and15 (x : Int) : bits .and .i64 x 15 = x % 16 := own_and x 4 (by omega)
theorem cut_any (x : ActX) (w : World) :
    Calls Try.prog 59 #[.agg x.arr] w fun r w' => r = .returned (.agg (cutX x).arr) ∧ Fr [] w w' := by
  go_enter Try.func59, Try.ntmps59
  go_upto_region 4 with (fail)
  go_cut [2] (fun s2 wx => s2 = .pointer (some ⟨w.heap.size + 1, 0, none⟩) ∧ At wx (w.heap.size + 1) 91 (cutX x).arr ∧ Fr [] w wx)
  case first =>
    go_wp2_with fail
    go_meet
    refine ⟨rfl, ?_, by ((repeat' (first | (with_reducible assumption) | (with_reducible exact Fr.refl _ _) | (with_reducible refine Fr.drew ?_) | (with_reducible refine Fr.drewN ?_ _) | (with_reducible refine Fr.alloc ?_ _) | (with_reducible refine Fr.setCell ?_ ?_ _))); all_goals (first | (left; simp only [List.mem_cons, true_or, or_true]; done) | (left; simp only [List.mem_cons, List.mem_append, true_or, or_true]; done) | (right; simp only []; omega) | (right; simp; done) | (right; simp; omega) | (left; simp; done)))⟩
    refine At.to (by ((repeat' (first | (with_reducible assumption) | (with_reducible apply At.drew) | (with_reducible apply At.drewN) | (with_reducible refine At.newAt ?_; (simp; done)) | (with_reducible apply At.alloc) | (with_reducible apply At.set) | (with_reducible apply At.setOther))); all_goals (first | assumption | (apply Ne.symm; assumption) | omega | (simp only []; omega) | (simp; done) | (simp; omega)))) ?_
    simp [cutX, IntWalk.i64_left]
  case rest =>
    obtain ⟨rfl, B, F⟩ := hcut
    have cB := B.cell
    go_wp2
    exact bodyPost_ret (v := .agg (cutX x).arr) (by simp [results, Try.results59, go_sem, cB]) rfl ⟨rfl, F⟩

theorem ownV_range (x : ActX) : 0 ≤ (cutX x).value ∧ (cutX x).value ≤ 1099511627775 := by
  have e : (cutX x).value = x.value % 1099511627776 := own_and x.value 40 (by omega)
  rw [e]; omega
theorem tmod_bound (a : Int) : -4 < a.tmod 4 ∧ a.tmod 4 < 4 := by
  rw [Int.tmod_eq_emod]
  split <;> omega
theorem ownK_range (k : Int) : 2 ≤ wrap64 (2 + (wrap64 (k.tmod 4 + 4)).tmod 4) ∧ wrap64 (2 + (wrap64 (k.tmod 4 + 4)).tmod 4) ≤ 5 := by
  have h1 := tmod_bound k
  rw [wrap64_in (k.tmod 4 + 4) (by omega) (by omega)]
  have h2 : (k.tmod 4 + 4).tmod 4 = (k.tmod 4 + 4) % 4 := Int.tmod_eq_emod_of_nonneg (by omega)
  rw [h2, wrap64_in _ (by omega) (by omega)]
  omega
theorem own_walk (a0 : Int) (x : ActX) (w : World) :
    Calls Try.prog 19 #[.int .i64 a0, .agg x.arr] w fun r w' => r = .returned (.bool true) ∧ Fr [] w w' := by
  obtain ⟨n, hn⟩ : ∃ n, 1 + a0 % 16 = n := ⟨_, rfl⟩
  obtain ⟨K, hK⟩ : ∃ K, wrap64 (2 + (wrap64 ((cutX x).kind.tmod 4 + 4)).tmod 4) = K := ⟨_, rfl⟩
  obtain ⟨V, hV⟩ : ∃ V, (cutX x).value = V := ⟨_, rfl⟩
  have n1 : 1 ≤ n ∧ n ≤ 16 := by rw [← hn]; omega
  have k1 : 2 ≤ K ∧ K ≤ 5 := by rw [← hK]; exact ownK_range _
  have v1 : 0 ≤ V ∧ V ≤ 1099511627775 := by rw [← hV]; exact ownV_range _
  have hck : ∀ h o, (ownX K x.size h V o).check = true := by
    intro h o
    show ((decide (1 ≤ K) && decide (K ≤ 5)) && (decide (0 ≤ V) && decide (V ≤ 1099511627775) && decide ((0 : Int) ≤ 0) && decide ((0 : Int) ≤ 1099511627775))) = true
    rw [decide_eq_true (show 1 ≤ K by omega), decide_eq_true (show K ≤ 5 by omega), decide_eq_true (show 0 ≤ V by omega), decide_eq_true (show V ≤ 1099511627775 by omega)]
    decide
  have hE := own_law n K x.size V n1.1 n1.2 k1.1 k1.2
  have hO := ownOk_law n K x.size V n1.1 n1.2 k1.1 k1.2
  unfold ownEnd at hE
  unfold ownOk at hO
  simp only [Bool.and_eq_true, decide_eq_true_eq] at hE hO
  obtain ⟨⟨⟨e1, e2⟩, e3⟩, e4⟩ := hE
  obtain ⟨⟨⟨⟨⟨o1, o2⟩, o3⟩, o4⟩, o5⟩, o6⟩ := hO
  have hA : doAct ownE ownE.c.fresh ⟨1, n, 0, 0, 0, 0, false⟩ = ownA n := rfl
  have hB : doAct ownE (ownA n).2 ⟨1, n, 0, 0, 0, 0, true⟩ = ownB n := rfl
  have hP : doAct ownE (ownB n).2 (ownX K x.size (ownA n).1.handle V true) = ownP n K x.size V := doAct_R _ _ _ (hck _ _)
  have hQ : doAct ownE (ownP n K x.size V).2 (ownX K x.size (ownB n).1.handle V false) = ownQ n K x.size V := doAct_R _ _ _ (hck _ _)
  have hR : doAct ownE (ownQ n K x.size V).2 (ownX K x.size (ownB n).1.handle V true) = ownR n K x.size V := doAct_R _ _ _ (hck _ _)
  have hS : doAct ownE (ownR n K x.size V).2 (ownX K x.size (ownA n).1.handle V false) = ownS n K x.size V := doAct_R _ _ _ (hck _ _)
  generalize ownS n K x.size V = S at e4 hS
  generalize ownR n K x.size V = R at e3 hR hS o6
  generalize ownQ n K x.size V = Q at e2 hQ hR o5
  generalize ownP n K x.size V = P at e1 hP hQ o4
  generalize ownB n = B at hB hP hQ hR o3 o4 o5
  generalize ownA n = A at hA hB hP hS o2 o3 o6
  have hc := fun w => arena_any 1 4 4 40 w (by decide +kernel) (by decide +kernel) (by decide +kernel) (by decide +kernel)
  rw [show ownE.c.fresh = (arenaCfg 1 4 4 40).fresh from rfl] at hA o1
  rw [show arenaEnv 1 4 4 40 = ownE from rfl] at hc
  generalize ownE = e at hc hA hB hP hQ hR hS o1 o2 o3 o4 o5 o6
  generalize (arenaCfg 1 4 4 40).fresh = m at hc hA o1
  have HC := hid hc
  have HA := hid hA
  have HB := hid hB
  have HP := hid hP
  have HQ := hid hQ
  have HR := hid hR
  have HS := hid hS
  have KA := hid o1
  have KB := hid o2
  have KP := hid o3
  have KQ := hid o4
  have KR := hid o5
  have KS := hid o6
  have EK := hid hK
  have EV := hid hV
  have EN := hid (show wrap64 (1 + bits .and .i64 a0 15) = n by rw [own_and15, wrap64_in _ (by omega) (by omega)]; exact hn)
  have HCK := hid hck
  have d1 : (P.1.e == 3) = true := by simpa using e1
  have d2 : (Q.1.e == 3) = true := by simpa using e2
  have d3 : (R.1.e == 0) = true := by simpa using e3
  have d4 : (S.1.e == 0) = true := by simpa using e4
  clear hc hA hB hP hQ hR hS o1 o2 o3 o4 o5 o6 hK hV hn hck e1 e2 e3 e4 n1 k1 v1
  go_enter Try.func19, Try.ntmps19
  go_wp2_with fail
  refine (HC.out _).mono ?_
  rintro r wa ⟨l, rfl, hl, h, fa⟩
  have bX := At.fr (b := w.heap.size) (t := 91) (vs := x.arr) (by ((repeat' (first | (with_reducible assumption) | (with_reducible apply At.drew) | (with_reducible apply At.drewN) | (with_reducible refine At.newAt ?_; (simp; done)) | (with_reducible apply At.alloc) | (with_reducible apply At.set) | (with_reducible apply At.setOther))); all_goals (first | assumption | (apply Ne.symm; assumption) | omega | (simp only []; omega) | (simp; done) | (simp; omega)))) fa (by simp)
  have cX_ := bX.cell
  have lX_ := bX.lt
  have lm := h.hd.lt
  have nl : ∀ k, wa.heap.size ≤ k → k ∉ l.list := fun k hk => h.nin hk
  have HLN := hid (show ∀ x ∈ l.list, x < w.heap.size → x ∈ ([] : List Nat) from fun x hx hxw => by have := hl x hx; simp at this; omega)
  have nX : w.heap.size ∉ l.list := fun q => by have := hl _ q; simp at this; omega
  have FA : Fr [] w wa := Fr.trans' (S := []) (by ((repeat' (first | (with_reducible assumption) | (with_reducible exact Fr.refl _ _) | (with_reducible refine Fr.drew ?_) | (with_reducible refine Fr.drewN ?_ _) | (with_reducible refine Fr.alloc ?_ _) | (with_reducible refine Fr.setCell ?_ ?_ _))); all_goals (first | (left; simp only [List.mem_cons, true_or, or_true]; done) | (left; simp only [List.mem_cons, List.mem_append, true_or, or_true]; done) | (right; simp only []; omega) | (right; simp; done) | (right; simp; omega) | (left; simp; done)))) fa (by simp)
  clear hl fa
  go_wp2_with fail
  refine (awake15_any _).mono ?_
  rintro r w1 ⟨rfl, f1⟩
  have bE := At.fr (b := wa.heap.size) (t := 30) (vs := (e.arr l)) (by first | ((repeat' (first | (with_reducible assumption) | (with_reducible apply At.drew) | (with_reducible apply At.drewN) | (with_reducible refine At.newAt ?_; (simp; done)) | (with_reducible apply At.alloc) | (with_reducible apply At.set) | (with_reducible apply At.setOther))); all_goals (first | assumption | (apply Ne.symm; assumption) | omega | (simp only []; omega) | (simp; done) | (simp; omega))) | exact At.to (by ((repeat' (first | (with_reducible assumption) | (with_reducible apply At.drew) | (with_reducible apply At.drewN) | (with_reducible refine At.newAt ?_; (simp; done)) | (with_reducible apply At.alloc) | (with_reducible apply At.set) | (with_reducible apply At.setOther))); all_goals (first | assumption | (apply Ne.symm; assumption) | omega | (simp only []; omega) | (simp; done) | (simp; omega)))) (by (first | rfl | (simp [inc]; done) | (simp [inc, IntWalk.i64_left]; done)))) f1 (by simp)
  have cbE := bE.cell
  have gbE := bE.frozen
  have lbE := bE.lt
  have bX := At.fr (b := w.heap.size) (t := 91) (vs := x.arr) (by ((repeat' (first | (with_reducible assumption) | (with_reducible apply At.drew) | (with_reducible apply At.drewN) | (with_reducible refine At.newAt ?_; (simp; done)) | (with_reducible apply At.alloc) | (with_reducible apply At.set) | (with_reducible apply At.setOther))); all_goals (first | assumption | (apply Ne.symm; assumption) | omega | (simp only []; omega) | (simp; done) | (simp; omega)))) f1 (by simp)
  have cX_ := bX.cell
  have lX_ := bX.lt
  have h1 := MemAt.frl (l := l) (by ((repeat' (first | (with_reducible assumption) | (with_reducible apply MemAt.drew) | (with_reducible apply MemAt.drewN) | (with_reducible apply MemAt.alloc) | (with_reducible apply MemAt.setN))); all_goals (first | assumption | (simp only []; assumption) | (refine nl _ ?_; first | omega | (simp only []; omega) | (simp; omega))))) f1 (by simp)
  have F1 := Fr.sub (S := []) (a := w) (by ((repeat' (first | (with_reducible assumption) | (with_reducible exact Fr.refl _ _) | (with_reducible refine Fr.drew ?_) | (with_reducible refine Fr.drewN ?_ _) | (with_reducible refine Fr.alloc ?_ _) | (with_reducible refine Fr.setCell ?_ ?_ _))); all_goals (first | (left; simp only [List.mem_cons, true_or, or_true]; done) | (left; simp only [List.mem_cons, List.mem_append, true_or, or_true]; done) | (right; simp only []; omega) | (right; simp; done) | (right; simp; omega) | (left; simp; done)))) f1 (by simp)
  clear f1
  go_wp2_with fail
  (try simp only [IntWalk.i64_left])
  rw [EN.out]
  refine (doAct_any e _ l m (by ((repeat' (first | (with_reducible assumption) | (with_reducible apply MemAt.drew) | (with_reducible apply MemAt.drewN) | (with_reducible apply MemAt.alloc) | (with_reducible apply MemAt.setN))); all_goals (first | assumption | (simp only []; assumption) | (refine nl _ ?_; first | omega | (simp only []; omega) | (simp; omega))))) ⟨1, n, 0, 0, 0, 0, false⟩ (by simp [ActX.check]) KA.out).mono ?_
  rw [HA.out]
  rintro r wA ⟨rfl, h1, f1⟩
  have bE := At.fr (b := wa.heap.size) (t := 30) (vs := (e.arr l)) (by first | ((repeat' (first | (with_reducible assumption) | (with_reducible apply At.drew) | (with_reducible apply At.drewN) | (with_reducible refine At.newAt ?_; (simp; done)) | (with_reducible apply At.alloc) | (with_reducible apply At.set) | (with_reducible apply At.setOther))); all_goals (first | assumption | (apply Ne.symm; assumption) | omega | (simp only []; omega) | (simp; done) | (simp; omega))) | exact At.to (by ((repeat' (first | (with_reducible assumption) | (with_reducible apply At.drew) | (with_reducible apply At.drewN) | (with_reducible refine At.newAt ?_; (simp; done)) | (with_reducible apply At.alloc) | (with_reducible apply At.set) | (with_reducible apply At.setOther))); all_goals (first | assumption | (apply Ne.symm; assumption) | omega | (simp only []; omega) | (simp; done) | (simp; omega)))) (by (first | rfl | (simp [inc]; done) | (simp [inc, IntWalk.i64_left]; done)))) f1 (nl _ (by omega))
  have cbE := bE.cell
  have gbE := bE.frozen
  have lbE := bE.lt
  have bX := At.fr (b := w.heap.size) (t := 91) (vs := x.arr) (by ((repeat' (first | (with_reducible assumption) | (with_reducible apply At.drew) | (with_reducible apply At.drewN) | (with_reducible refine At.newAt ?_; (simp; done)) | (with_reducible apply At.alloc) | (with_reducible apply At.set) | (with_reducible apply At.setOther))); all_goals (first | assumption | (apply Ne.symm; assumption) | omega | (simp only []; omega) | (simp; done) | (simp; omega)))) f1 nX
  have cX_ := bX.cell
  have lX_ := bX.lt
  have F1 := Fr.trans' (S := []) (a := w) (by ((repeat' (first | (with_reducible assumption) | (with_reducible exact Fr.refl _ _) | (with_reducible refine Fr.drew ?_) | (with_reducible refine Fr.drewN ?_ _) | (with_reducible refine Fr.alloc ?_ _) | (with_reducible refine Fr.setCell ?_ ?_ _))); all_goals (first | (left; simp only [List.mem_cons, true_or, or_true]; done) | (left; simp only [List.mem_cons, List.mem_append, true_or, or_true]; done) | (right; simp only []; omega) | (right; simp; done) | (right; simp; omega) | (left; simp; done)))) f1 HLN.out
  clear f1
  go_wp2_with fail
  (try simp only [IntWalk.i64_left])
  rw [EN.out]
  refine (doAct_any e _ l A.2 (by ((repeat' (first | (with_reducible assumption) | (with_reducible apply MemAt.drew) | (with_reducible apply MemAt.drewN) | (with_reducible apply MemAt.alloc) | (with_reducible apply MemAt.setN))); all_goals (first | assumption | (simp only []; assumption) | (refine nl _ ?_; first | omega | (simp only []; omega) | (simp; omega))))) ⟨1, n, 0, 0, 0, 0, true⟩ (by simp [ActX.check]) KB.out).mono ?_
  rw [HB.out]
  rintro r wB ⟨rfl, h1, f1⟩
  have bE := At.fr (b := wa.heap.size) (t := 30) (vs := (e.arr l)) (by first | ((repeat' (first | (with_reducible assumption) | (with_reducible apply At.drew) | (with_reducible apply At.drewN) | (with_reducible refine At.newAt ?_; (simp; done)) | (with_reducible apply At.alloc) | (with_reducible apply At.set) | (with_reducible apply At.setOther))); all_goals (first | assumption | (apply Ne.symm; assumption) | omega | (simp only []; omega) | (simp; done) | (simp; omega))) | exact At.to (by ((repeat' (first | (with_reducible assumption) | (with_reducible apply At.drew) | (with_reducible apply At.drewN) | (with_reducible refine At.newAt ?_; (simp; done)) | (with_reducible apply At.alloc) | (with_reducible apply At.set) | (with_reducible apply At.setOther))); all_goals (first | assumption | (apply Ne.symm; assumption) | omega | (simp only []; omega) | (simp; done) | (simp; omega)))) (by (first | rfl | (simp [inc]; done) | (simp [inc, IntWalk.i64_left]; done)))) f1 (nl _ (by omega))
  have cbE := bE.cell
  have gbE := bE.frozen
  have lbE := bE.lt
  have bA := At.fr (b := wA.heap.size) (t := 36) (vs := A.1.arr) (by first | ((repeat' (first | (with_reducible assumption) | (with_reducible apply At.drew) | (with_reducible apply At.drewN) | (with_reducible refine At.newAt ?_; (simp; done)) | (with_reducible apply At.alloc) | (with_reducible apply At.set) | (with_reducible apply At.setOther))); all_goals (first | assumption | (apply Ne.symm; assumption) | omega | (simp only []; omega) | (simp; done) | (simp; omega))) | exact At.to (by ((repeat' (first | (with_reducible assumption) | (with_reducible apply At.drew) | (with_reducible apply At.drewN) | (with_reducible refine At.newAt ?_; (simp; done)) | (with_reducible apply At.alloc) | (with_reducible apply At.set) | (with_reducible apply At.setOther))); all_goals (first | assumption | (apply Ne.symm; assumption) | omega | (simp only []; omega) | (simp; done) | (simp; omega)))) (by (first | rfl | (simp [inc]; done) | (simp [inc, IntWalk.i64_left]; done)))) f1 (nl _ (by omega))
  have cbA := bA.cell
  have gbA := bA.frozen
  have lbA := bA.lt
  have bX := At.fr (b := w.heap.size) (t := 91) (vs := x.arr) (by ((repeat' (first | (with_reducible assumption) | (with_reducible apply At.drew) | (with_reducible apply At.drewN) | (with_reducible refine At.newAt ?_; (simp; done)) | (with_reducible apply At.alloc) | (with_reducible apply At.set) | (with_reducible apply At.setOther))); all_goals (first | assumption | (apply Ne.symm; assumption) | omega | (simp only []; omega) | (simp; done) | (simp; omega)))) f1 nX
  have cX_ := bX.cell
  have lX_ := bX.lt
  have F1 := Fr.trans' (S := []) (a := w) (by ((repeat' (first | (with_reducible assumption) | (with_reducible exact Fr.refl _ _) | (with_reducible refine Fr.drew ?_) | (with_reducible refine Fr.drewN ?_ _) | (with_reducible refine Fr.alloc ?_ _) | (with_reducible refine Fr.setCell ?_ ?_ _))); all_goals (first | (left; simp only [List.mem_cons, true_or, or_true]; done) | (left; simp only [List.mem_cons, List.mem_append, true_or, or_true]; done) | (right; simp only []; omega) | (right; simp; done) | (right; simp; omega) | (left; simp; done)))) f1 HLN.out
  clear f1
  go_wp2_with fail
  refine (cut_any x _).mono ?_
  rintro r wC ⟨rfl, f1⟩
  have bE := At.fr (b := wa.heap.size) (t := 30) (vs := (e.arr l)) (by first | ((repeat' (first | (with_reducible assumption) | (with_reducible apply At.drew) | (with_reducible apply At.drewN) | (with_reducible refine At.newAt ?_; (simp; done)) | (with_reducible apply At.alloc) | (with_reducible apply At.set) | (with_reducible apply At.setOther))); all_goals (first | assumption | (apply Ne.symm; assumption) | omega | (simp only []; omega) | (simp; done) | (simp; omega))) | exact At.to (by ((repeat' (first | (with_reducible assumption) | (with_reducible apply At.drew) | (with_reducible apply At.drewN) | (with_reducible refine At.newAt ?_; (simp; done)) | (with_reducible apply At.alloc) | (with_reducible apply At.set) | (with_reducible apply At.setOther))); all_goals (first | assumption | (apply Ne.symm; assumption) | omega | (simp only []; omega) | (simp; done) | (simp; omega)))) (by (first | rfl | (simp [inc]; done) | (simp [inc, IntWalk.i64_left]; done)))) f1 (by simp)
  have cbE := bE.cell
  have gbE := bE.frozen
  have lbE := bE.lt
  have bA := At.fr (b := wA.heap.size) (t := 36) (vs := A.1.arr) (by first | ((repeat' (first | (with_reducible assumption) | (with_reducible apply At.drew) | (with_reducible apply At.drewN) | (with_reducible refine At.newAt ?_; (simp; done)) | (with_reducible apply At.alloc) | (with_reducible apply At.set) | (with_reducible apply At.setOther))); all_goals (first | assumption | (apply Ne.symm; assumption) | omega | (simp only []; omega) | (simp; done) | (simp; omega))) | exact At.to (by ((repeat' (first | (with_reducible assumption) | (with_reducible apply At.drew) | (with_reducible apply At.drewN) | (with_reducible refine At.newAt ?_; (simp; done)) | (with_reducible apply At.alloc) | (with_reducible apply At.set) | (with_reducible apply At.setOther))); all_goals (first | assumption | (apply Ne.symm; assumption) | omega | (simp only []; omega) | (simp; done) | (simp; omega)))) (by (first | rfl | (simp [inc]; done) | (simp [inc, IntWalk.i64_left]; done)))) f1 (by simp)
  have cbA := bA.cell
  have gbA := bA.frozen
  have lbA := bA.lt
  have bB := At.fr (b := wB.heap.size) (t := 36) (vs := B.1.arr) (by first | ((repeat' (first | (with_reducible assumption) | (with_reducible apply At.drew) | (with_reducible apply At.drewN) | (with_reducible refine At.newAt ?_; (simp; done)) | (with_reducible apply At.alloc) | (with_reducible apply At.set) | (with_reducible apply At.setOther))); all_goals (first | assumption | (apply Ne.symm; assumption) | omega | (simp only []; omega) | (simp; done) | (simp; omega))) | exact At.to (by ((repeat' (first | (with_reducible assumption) | (with_reducible apply At.drew) | (with_reducible apply At.drewN) | (with_reducible refine At.newAt ?_; (simp; done)) | (with_reducible apply At.alloc) | (with_reducible apply At.set) | (with_reducible apply At.setOther))); all_goals (first | assumption | (apply Ne.symm; assumption) | omega | (simp only []; omega) | (simp; done) | (simp; omega)))) (by (first | rfl | (simp [inc]; done) | (simp [inc, IntWalk.i64_left]; done)))) f1 (by simp)
  have cbB := bB.cell
  have gbB := bB.frozen
  have lbB := bB.lt
  have h1 := MemAt.frl (l := l) (by ((repeat' (first | (with_reducible assumption) | (with_reducible apply MemAt.drew) | (with_reducible apply MemAt.drewN) | (with_reducible apply MemAt.alloc) | (with_reducible apply MemAt.setN))); all_goals (first | assumption | (simp only []; assumption) | (refine nl _ ?_; first | omega | (simp only []; omega) | (simp; omega))))) f1 (by simp)
  have F1 := Fr.sub (S := []) (a := w) (by ((repeat' (first | (with_reducible assumption) | (with_reducible exact Fr.refl _ _) | (with_reducible refine Fr.drew ?_) | (with_reducible refine Fr.drewN ?_ _) | (with_reducible refine Fr.alloc ?_ _) | (with_reducible refine Fr.setCell ?_ ?_ _))); all_goals (first | (left; simp only [List.mem_cons, true_or, or_true]; done) | (left; simp only [List.mem_cons, List.mem_append, true_or, or_true]; done) | (right; simp only []; omega) | (right; simp; done) | (right; simp; omega) | (left; simp; done)))) f1 (by simp)
  clear f1
  go_upto_region 7 with (fail)
  go_cut [43] (fun s43 wx => At wx wa.heap.size 30 (e.arr l) ∧ At wx wA.heap.size 36 A.1.arr ∧ At wx wB.heap.size 36 B.1.arr ∧ At wx wC.heap.size 91 #[.int .i64 K, .int .i64 x.size, .int .u64 x.handle, .int .i64 0, .int .i64 V, .int .i64 0, .bool x.own] ∧ MemAt wx l B.2 ∧ Fr [] w wx)
  case first =>
    go_wp2_with fail
    go_meet
    refine ⟨by ((repeat' (first | (with_reducible assumption) | (with_reducible apply At.drew) | (with_reducible apply At.drewN) | (with_reducible refine At.newAt ?_; (simp; done)) | (with_reducible apply At.alloc) | (with_reducible apply At.set) | (with_reducible apply At.setOther))); all_goals (first | assumption | (apply Ne.symm; assumption) | omega | (simp only []; omega) | (simp; done) | (simp; omega))), by ((repeat' (first | (with_reducible assumption) | (with_reducible apply At.drew) | (with_reducible apply At.drewN) | (with_reducible refine At.newAt ?_; (simp; done)) | (with_reducible apply At.alloc) | (with_reducible apply At.set) | (with_reducible apply At.setOther))); all_goals (first | assumption | (apply Ne.symm; assumption) | omega | (simp only []; omega) | (simp; done) | (simp; omega))), by ((repeat' (first | (with_reducible assumption) | (with_reducible apply At.drew) | (with_reducible apply At.drewN) | (with_reducible refine At.newAt ?_; (simp; done)) | (with_reducible apply At.alloc) | (with_reducible apply At.set) | (with_reducible apply At.setOther))); all_goals (first | assumption | (apply Ne.symm; assumption) | omega | (simp only []; omega) | (simp; done) | (simp; omega))), ?_, by ((repeat' (first | (with_reducible assumption) | (with_reducible apply MemAt.drew) | (with_reducible apply MemAt.drewN) | (with_reducible apply MemAt.alloc) | (with_reducible apply MemAt.setN))); all_goals (first | assumption | (simp only []; assumption) | (refine nl _ ?_; first | omega | (simp only []; omega) | (simp; omega)))), by ((repeat' (first | (with_reducible assumption) | (with_reducible exact Fr.refl _ _) | (with_reducible refine Fr.drew ?_) | (with_reducible refine Fr.drewN ?_ _) | (with_reducible refine Fr.alloc ?_ _) | (with_reducible refine Fr.setCell ?_ ?_ _))); all_goals (first | (left; simp only [List.mem_cons, true_or, or_true]; done) | (left; simp only [List.mem_cons, List.mem_append, true_or, or_true]; done) | (right; simp only []; omega) | (right; simp; done) | (right; simp; omega) | (left; simp; done)))⟩
    refine At.to (by ((repeat' (first | (with_reducible assumption) | (with_reducible apply At.drew) | (with_reducible apply At.drewN) | (with_reducible refine At.newAt ?_; (simp; done)) | (with_reducible apply At.alloc) | (with_reducible apply At.set) | (with_reducible apply At.setOther))); all_goals (first | assumption | (apply Ne.symm; assumption) | omega | (simp only []; omega) | (simp; done) | (simp; omega)))) ?_
    rw [← EK.out, ← EV.out]
    simp [cutX, IntWalk.i64_left]
  case rest =>
    obtain ⟨bE, bA, bB, bY, h1, F1⟩ := hcut
    have cbE := bE.cell
    have gbE := bE.frozen
    have lbE := bE.lt
    have cbA := bA.cell
    have gbA := bA.frozen
    have lbA := bA.lt
    have cbB := bB.cell
    have gbB := bB.frozen
    have lbB := bB.lt
    have cbY := bY.cell
    have gbY := bY.frozen
    have lbY := bY.lt
    go_wp2_with fail
    (try simp only [IntWalk.i64_left])
    refine (doAct_any e _ l B.2 (by ((repeat' (first | (with_reducible assumption) | (with_reducible apply MemAt.drew) | (with_reducible apply MemAt.drewN) | (with_reducible apply MemAt.alloc) | (with_reducible apply MemAt.setN))); all_goals (first | assumption | (simp only []; assumption) | (refine nl _ ?_; first | omega | (simp only []; omega) | (simp; omega))))) (ownX K x.size A.1.handle V true) (HCK.out _ _) KP.out).mono ?_
    rw [HP.out]
    rintro r wP ⟨rfl, h1, f1⟩
    have bE := At.fr (b := wa.heap.size) (t := 30) (vs := (e.arr l)) (by first | ((repeat' (first | (with_reducible assumption) | (with_reducible apply At.drew) | (with_reducible apply At.drewN) | (with_reducible refine At.newAt ?_; (simp; done)) | (with_reducible apply At.alloc) | (with_reducible apply At.set) | (with_reducible apply At.setOther))); all_goals (first | assumption | (apply Ne.symm; assumption) | omega | (simp only []; omega) | (simp; done) | (simp; omega))) | exact At.to (by ((repeat' (first | (with_reducible assumption) | (with_reducible apply At.drew) | (with_reducible apply At.drewN) | (with_reducible refine At.newAt ?_; (simp; done)) | (with_reducible apply At.alloc) | (with_reducible apply At.set) | (with_reducible apply At.setOther))); all_goals (first | assumption | (apply Ne.symm; assumption) | omega | (simp only []; omega) | (simp; done) | (simp; omega)))) (by (first | rfl | (simp [inc]; done) | (simp [inc, IntWalk.i64_left]; done)))) f1 (nl _ (by omega))
    have cbE := bE.cell
    have gbE := bE.frozen
    have lbE := bE.lt
    have bA := At.fr (b := wA.heap.size) (t := 36) (vs := A.1.arr) (by first | ((repeat' (first | (with_reducible assumption) | (with_reducible apply At.drew) | (with_reducible apply At.drewN) | (with_reducible refine At.newAt ?_; (simp; done)) | (with_reducible apply At.alloc) | (with_reducible apply At.set) | (with_reducible apply At.setOther))); all_goals (first | assumption | (apply Ne.symm; assumption) | omega | (simp only []; omega) | (simp; done) | (simp; omega))) | exact At.to (by ((repeat' (first | (with_reducible assumption) | (with_reducible apply At.drew) | (with_reducible apply At.drewN) | (with_reducible refine At.newAt ?_; (simp; done)) | (with_reducible apply At.alloc) | (with_reducible apply At.set) | (with_reducible apply At.setOther))); all_goals (first | assumption | (apply Ne.symm; assumption) | omega | (simp only []; omega) | (simp; done) | (simp; omega)))) (by (first | rfl | (simp [inc]; done) | (simp [inc, IntWalk.i64_left]; done)))) f1 (nl _ (by omega))
    have cbA := bA.cell
    have gbA := bA.frozen
    have lbA := bA.lt
    have bB := At.fr (b := wB.heap.size) (t := 36) (vs := B.1.arr) (by first | ((repeat' (first | (with_reducible assumption) | (with_reducible apply At.drew) | (with_reducible apply At.drewN) | (with_reducible refine At.newAt ?_; (simp; done)) | (with_reducible apply At.alloc) | (with_reducible apply At.set) | (with_reducible apply At.setOther))); all_goals (first | assumption | (apply Ne.symm; assumption) | omega | (simp only []; omega) | (simp; done) | (simp; omega))) | exact At.to (by ((repeat' (first | (with_reducible assumption) | (with_reducible apply At.drew) | (with_reducible apply At.drewN) | (with_reducible refine At.newAt ?_; (simp; done)) | (with_reducible apply At.alloc) | (with_reducible apply At.set) | (with_reducible apply At.setOther))); all_goals (first | assumption | (apply Ne.symm; assumption) | omega | (simp only []; omega) | (simp; done) | (simp; omega)))) (by (first | rfl | (simp [inc]; done) | (simp [inc, IntWalk.i64_left]; done)))) f1 (nl _ (by omega))
    have cbB := bB.cell
    have gbB := bB.frozen
    have lbB := bB.lt
    have bY := At.fr (b := wC.heap.size) (t := 91) (vs := #[.int .i64 K, .int .i64 x.size, .int .u64 A.1.handle, .int .i64 0, .int .i64 V, .int .i64 0, .bool true]) (by first | ((repeat' (first | (with_reducible assumption) | (with_reducible apply At.drew) | (with_reducible apply At.drewN) | (with_reducible refine At.newAt ?_; (simp; done)) | (with_reducible apply At.alloc) | (with_reducible apply At.set) | (with_reducible apply At.setOther))); all_goals (first | assumption | (apply Ne.symm; assumption) | omega | (simp only []; omega) | (simp; done) | (simp; omega))) | exact At.to (by ((repeat' (first | (with_reducible assumption) | (with_reducible apply At.drew) | (with_reducible apply At.drewN) | (with_reducible refine At.newAt ?_; (simp; done)) | (with_reducible apply At.alloc) | (with_reducible apply At.set) | (with_reducible apply At.setOther))); all_goals (first | assumption | (apply Ne.symm; assumption) | omega | (simp only []; omega) | (simp; done) | (simp; omega)))) (by (first | rfl | (simp [inc]; done) | (simp [inc, IntWalk.i64_left]; done)))) f1 (nl _ (by omega))
    have cbY := bY.cell
    have gbY := bY.frozen
    have lbY := bY.lt
    have F1 := Fr.trans' (S := []) (a := w) (by ((repeat' (first | (with_reducible assumption) | (with_reducible exact Fr.refl _ _) | (with_reducible refine Fr.drew ?_) | (with_reducible refine Fr.drewN ?_ _) | (with_reducible refine Fr.alloc ?_ _) | (with_reducible refine Fr.setCell ?_ ?_ _))); all_goals (first | (left; simp only [List.mem_cons, true_or, or_true]; done) | (left; simp only [List.mem_cons, List.mem_append, true_or, or_true]; done) | (right; simp only []; omega) | (right; simp; done) | (right; simp; omega) | (left; simp; done)))) f1 HLN.out
    clear f1
    go_wp2_with fail
    (try simp only [IntWalk.i64_left])
    refine (doAct_any e _ l P.2 (by ((repeat' (first | (with_reducible assumption) | (with_reducible apply MemAt.drew) | (with_reducible apply MemAt.drewN) | (with_reducible apply MemAt.alloc) | (with_reducible apply MemAt.setN))); all_goals (first | assumption | (simp only []; assumption) | (refine nl _ ?_; first | omega | (simp only []; omega) | (simp; omega))))) (ownX K x.size B.1.handle V false) (HCK.out _ _) KQ.out).mono ?_
    rw [HQ.out]
    rintro r wQ ⟨rfl, h1, f1⟩
    have bE := At.fr (b := wa.heap.size) (t := 30) (vs := (e.arr l)) (by first | ((repeat' (first | (with_reducible assumption) | (with_reducible apply At.drew) | (with_reducible apply At.drewN) | (with_reducible refine At.newAt ?_; (simp; done)) | (with_reducible apply At.alloc) | (with_reducible apply At.set) | (with_reducible apply At.setOther))); all_goals (first | assumption | (apply Ne.symm; assumption) | omega | (simp only []; omega) | (simp; done) | (simp; omega))) | exact At.to (by ((repeat' (first | (with_reducible assumption) | (with_reducible apply At.drew) | (with_reducible apply At.drewN) | (with_reducible refine At.newAt ?_; (simp; done)) | (with_reducible apply At.alloc) | (with_reducible apply At.set) | (with_reducible apply At.setOther))); all_goals (first | assumption | (apply Ne.symm; assumption) | omega | (simp only []; omega) | (simp; done) | (simp; omega)))) (by (first | rfl | (simp [inc]; done) | (simp [inc, IntWalk.i64_left]; done)))) f1 (nl _ (by omega))
    have cbE := bE.cell
    have gbE := bE.frozen
    have lbE := bE.lt
    have bA := At.fr (b := wA.heap.size) (t := 36) (vs := A.1.arr) (by first | ((repeat' (first | (with_reducible assumption) | (with_reducible apply At.drew) | (with_reducible apply At.drewN) | (with_reducible refine At.newAt ?_; (simp; done)) | (with_reducible apply At.alloc) | (with_reducible apply At.set) | (with_reducible apply At.setOther))); all_goals (first | assumption | (apply Ne.symm; assumption) | omega | (simp only []; omega) | (simp; done) | (simp; omega))) | exact At.to (by ((repeat' (first | (with_reducible assumption) | (with_reducible apply At.drew) | (with_reducible apply At.drewN) | (with_reducible refine At.newAt ?_; (simp; done)) | (with_reducible apply At.alloc) | (with_reducible apply At.set) | (with_reducible apply At.setOther))); all_goals (first | assumption | (apply Ne.symm; assumption) | omega | (simp only []; omega) | (simp; done) | (simp; omega)))) (by (first | rfl | (simp [inc]; done) | (simp [inc, IntWalk.i64_left]; done)))) f1 (nl _ (by omega))
    have cbA := bA.cell
    have gbA := bA.frozen
    have lbA := bA.lt
    have bB := At.fr (b := wB.heap.size) (t := 36) (vs := B.1.arr) (by first | ((repeat' (first | (with_reducible assumption) | (with_reducible apply At.drew) | (with_reducible apply At.drewN) | (with_reducible refine At.newAt ?_; (simp; done)) | (with_reducible apply At.alloc) | (with_reducible apply At.set) | (with_reducible apply At.setOther))); all_goals (first | assumption | (apply Ne.symm; assumption) | omega | (simp only []; omega) | (simp; done) | (simp; omega))) | exact At.to (by ((repeat' (first | (with_reducible assumption) | (with_reducible apply At.drew) | (with_reducible apply At.drewN) | (with_reducible refine At.newAt ?_; (simp; done)) | (with_reducible apply At.alloc) | (with_reducible apply At.set) | (with_reducible apply At.setOther))); all_goals (first | assumption | (apply Ne.symm; assumption) | omega | (simp only []; omega) | (simp; done) | (simp; omega)))) (by (first | rfl | (simp [inc]; done) | (simp [inc, IntWalk.i64_left]; done)))) f1 (nl _ (by omega))
    have cbB := bB.cell
    have gbB := bB.frozen
    have lbB := bB.lt
    have bY := At.fr (b := wC.heap.size) (t := 91) (vs := #[.int .i64 K, .int .i64 x.size, .int .u64 B.1.handle, .int .i64 0, .int .i64 V, .int .i64 0, .bool false]) (by first | ((repeat' (first | (with_reducible assumption) | (with_reducible apply At.drew) | (with_reducible apply At.drewN) | (with_reducible refine At.newAt ?_; (simp; done)) | (with_reducible apply At.alloc) | (with_reducible apply At.set) | (with_reducible apply At.setOther))); all_goals (first | assumption | (apply Ne.symm; assumption) | omega | (simp only []; omega) | (simp; done) | (simp; omega))) | exact At.to (by ((repeat' (first | (with_reducible assumption) | (with_reducible apply At.drew) | (with_reducible apply At.drewN) | (with_reducible refine At.newAt ?_; (simp; done)) | (with_reducible apply At.alloc) | (with_reducible apply At.set) | (with_reducible apply At.setOther))); all_goals (first | assumption | (apply Ne.symm; assumption) | omega | (simp only []; omega) | (simp; done) | (simp; omega)))) (by (first | rfl | (simp [inc]; done) | (simp [inc, IntWalk.i64_left]; done)))) f1 (nl _ (by omega))
    have cbY := bY.cell
    have gbY := bY.frozen
    have lbY := bY.lt
    have bP := At.fr (b := wP.heap.size) (t := 36) (vs := P.1.arr) (by first | ((repeat' (first | (with_reducible assumption) | (with_reducible apply At.drew) | (with_reducible apply At.drewN) | (with_reducible refine At.newAt ?_; (simp; done)) | (with_reducible apply At.alloc) | (with_reducible apply At.set) | (with_reducible apply At.setOther))); all_goals (first | assumption | (apply Ne.symm; assumption) | omega | (simp only []; omega) | (simp; done) | (simp; omega))) | exact At.to (by ((repeat' (first | (with_reducible assumption) | (with_reducible apply At.drew) | (with_reducible apply At.drewN) | (with_reducible refine At.newAt ?_; (simp; done)) | (with_reducible apply At.alloc) | (with_reducible apply At.set) | (with_reducible apply At.setOther))); all_goals (first | assumption | (apply Ne.symm; assumption) | omega | (simp only []; omega) | (simp; done) | (simp; omega)))) (by (first | rfl | (simp [inc]; done) | (simp [inc, IntWalk.i64_left]; done)))) f1 (nl _ (by omega))
    have cbP := bP.cell
    have gbP := bP.frozen
    have lbP := bP.lt
    have F1 := Fr.trans' (S := []) (a := w) (by ((repeat' (first | (with_reducible assumption) | (with_reducible exact Fr.refl _ _) | (with_reducible refine Fr.drew ?_) | (with_reducible refine Fr.drewN ?_ _) | (with_reducible refine Fr.alloc ?_ _) | (with_reducible refine Fr.setCell ?_ ?_ _))); all_goals (first | (left; simp only [List.mem_cons, true_or, or_true]; done) | (left; simp only [List.mem_cons, List.mem_append, true_or, or_true]; done) | (right; simp only []; omega) | (right; simp; done) | (right; simp; omega) | (left; simp; done)))) f1 HLN.out
    clear f1
    go_wp2_with fail
    (try simp only [IntWalk.i64_left])
    refine (doAct_any e _ l Q.2 (by ((repeat' (first | (with_reducible assumption) | (with_reducible apply MemAt.drew) | (with_reducible apply MemAt.drewN) | (with_reducible apply MemAt.alloc) | (with_reducible apply MemAt.setN))); all_goals (first | assumption | (simp only []; assumption) | (refine nl _ ?_; first | omega | (simp only []; omega) | (simp; omega))))) (ownX K x.size B.1.handle V true) (HCK.out _ _) KR.out).mono ?_
    rw [HR.out]
    rintro r wR ⟨rfl, h1, f1⟩
    have bE := At.fr (b := wa.heap.size) (t := 30) (vs := (e.arr l)) (by first | ((repeat' (first | (with_reducible assumption) | (with_reducible apply At.drew) | (with_reducible apply At.drewN) | (with_reducible refine At.newAt ?_; (simp; done)) | (with_reducible apply At.alloc) | (with_reducible apply At.set) | (with_reducible apply At.setOther))); all_goals (first | assumption | (apply Ne.symm; assumption) | omega | (simp only []; omega) | (simp; done) | (simp; omega))) | exact At.to (by ((repeat' (first | (with_reducible assumption) | (with_reducible apply At.drew) | (with_reducible apply At.drewN) | (with_reducible refine At.newAt ?_; (simp; done)) | (with_reducible apply At.alloc) | (with_reducible apply At.set) | (with_reducible apply At.setOther))); all_goals (first | assumption | (apply Ne.symm; assumption) | omega | (simp only []; omega) | (simp; done) | (simp; omega)))) (by (first | rfl | (simp [inc]; done) | (simp [inc, IntWalk.i64_left]; done)))) f1 (nl _ (by omega))
    have cbE := bE.cell
    have gbE := bE.frozen
    have lbE := bE.lt
    have bA := At.fr (b := wA.heap.size) (t := 36) (vs := A.1.arr) (by first | ((repeat' (first | (with_reducible assumption) | (with_reducible apply At.drew) | (with_reducible apply At.drewN) | (with_reducible refine At.newAt ?_; (simp; done)) | (with_reducible apply At.alloc) | (with_reducible apply At.set) | (with_reducible apply At.setOther))); all_goals (first | assumption | (apply Ne.symm; assumption) | omega | (simp only []; omega) | (simp; done) | (simp; omega))) | exact At.to (by ((repeat' (first | (with_reducible assumption) | (with_reducible apply At.drew) | (with_reducible apply At.drewN) | (with_reducible refine At.newAt ?_; (simp; done)) | (with_reducible apply At.alloc) | (with_reducible apply At.set) | (with_reducible apply At.setOther))); all_goals (first | assumption | (apply Ne.symm; assumption) | omega | (simp only []; omega) | (simp; done) | (simp; omega)))) (by (first | rfl | (simp [inc]; done) | (simp [inc, IntWalk.i64_left]; done)))) f1 (nl _ (by omega))
    have cbA := bA.cell
    have gbA := bA.frozen
    have lbA := bA.lt
    have bB := At.fr (b := wB.heap.size) (t := 36) (vs := B.1.arr) (by first | ((repeat' (first | (with_reducible assumption) | (with_reducible apply At.drew) | (with_reducible apply At.drewN) | (with_reducible refine At.newAt ?_; (simp; done)) | (with_reducible apply At.alloc) | (with_reducible apply At.set) | (with_reducible apply At.setOther))); all_goals (first | assumption | (apply Ne.symm; assumption) | omega | (simp only []; omega) | (simp; done) | (simp; omega))) | exact At.to (by ((repeat' (first | (with_reducible assumption) | (with_reducible apply At.drew) | (with_reducible apply At.drewN) | (with_reducible refine At.newAt ?_; (simp; done)) | (with_reducible apply At.alloc) | (with_reducible apply At.set) | (with_reducible apply At.setOther))); all_goals (first | assumption | (apply Ne.symm; assumption) | omega | (simp only []; omega) | (simp; done) | (simp; omega)))) (by (first | rfl | (simp [inc]; done) | (simp [inc, IntWalk.i64_left]; done)))) f1 (nl _ (by omega))
    have cbB := bB.cell
    have gbB := bB.frozen
    have lbB := bB.lt
    have bY := At.fr (b := wC.heap.size) (t := 91) (vs := #[.int .i64 K, .int .i64 x.size, .int .u64 B.1.handle, .int .i64 0, .int .i64 V, .int .i64 0, .bool true]) (by first | ((repeat' (first | (with_reducible assumption) | (with_reducible apply At.drew) | (with_reducible apply At.drewN) | (with_reducible refine At.newAt ?_; (simp; done)) | (with_reducible apply At.alloc) | (with_reducible apply At.set) | (with_reducible apply At.setOther))); all_goals (first | assumption | (apply Ne.symm; assumption) | omega | (simp only []; omega) | (simp; done) | (simp; omega))) | exact At.to (by ((repeat' (first | (with_reducible assumption) | (with_reducible apply At.drew) | (with_reducible apply At.drewN) | (with_reducible refine At.newAt ?_; (simp; done)) | (with_reducible apply At.alloc) | (with_reducible apply At.set) | (with_reducible apply At.setOther))); all_goals (first | assumption | (apply Ne.symm; assumption) | omega | (simp only []; omega) | (simp; done) | (simp; omega)))) (by (first | rfl | (simp [inc]; done) | (simp [inc, IntWalk.i64_left]; done)))) f1 (nl _ (by omega))
    have cbY := bY.cell
    have gbY := bY.frozen
    have lbY := bY.lt
    have bP := At.fr (b := wP.heap.size) (t := 36) (vs := P.1.arr) (by first | ((repeat' (first | (with_reducible assumption) | (with_reducible apply At.drew) | (with_reducible apply At.drewN) | (with_reducible refine At.newAt ?_; (simp; done)) | (with_reducible apply At.alloc) | (with_reducible apply At.set) | (with_reducible apply At.setOther))); all_goals (first | assumption | (apply Ne.symm; assumption) | omega | (simp only []; omega) | (simp; done) | (simp; omega))) | exact At.to (by ((repeat' (first | (with_reducible assumption) | (with_reducible apply At.drew) | (with_reducible apply At.drewN) | (with_reducible refine At.newAt ?_; (simp; done)) | (with_reducible apply At.alloc) | (with_reducible apply At.set) | (with_reducible apply At.setOther))); all_goals (first | assumption | (apply Ne.symm; assumption) | omega | (simp only []; omega) | (simp; done) | (simp; omega)))) (by (first | rfl | (simp [inc]; done) | (simp [inc, IntWalk.i64_left]; done)))) f1 (nl _ (by omega))
    have cbP := bP.cell
    have gbP := bP.frozen
    have lbP := bP.lt
    have bQ := At.fr (b := wQ.heap.size) (t := 36) (vs := Q.1.arr) (by first | ((repeat' (first | (with_reducible assumption) | (with_reducible apply At.drew) | (with_reducible apply At.drewN) | (with_reducible refine At.newAt ?_; (simp; done)) | (with_reducible apply At.alloc) | (with_reducible apply At.set) | (with_reducible apply At.setOther))); all_goals (first | assumption | (apply Ne.symm; assumption) | omega | (simp only []; omega) | (simp; done) | (simp; omega))) | exact At.to (by ((repeat' (first | (with_reducible assumption) | (with_reducible apply At.drew) | (with_reducible apply At.drewN) | (with_reducible refine At.newAt ?_; (simp; done)) | (with_reducible apply At.alloc) | (with_reducible apply At.set) | (with_reducible apply At.setOther))); all_goals (first | assumption | (apply Ne.symm; assumption) | omega | (simp only []; omega) | (simp; done) | (simp; omega)))) (by (first | rfl | (simp [inc]; done) | (simp [inc, IntWalk.i64_left]; done)))) f1 (nl _ (by omega))
    have cbQ := bQ.cell
    have gbQ := bQ.frozen
    have lbQ := bQ.lt
    have F1 := Fr.trans' (S := []) (a := w) (by ((repeat' (first | (with_reducible assumption) | (with_reducible exact Fr.refl _ _) | (with_reducible refine Fr.drew ?_) | (with_reducible refine Fr.drewN ?_ _) | (with_reducible refine Fr.alloc ?_ _) | (with_reducible refine Fr.setCell ?_ ?_ _))); all_goals (first | (left; simp only [List.mem_cons, true_or, or_true]; done) | (left; simp only [List.mem_cons, List.mem_append, true_or, or_true]; done) | (right; simp only []; omega) | (right; simp; done) | (right; simp; omega) | (left; simp; done)))) f1 HLN.out
    clear f1
    go_wp2_with fail
    (try simp only [IntWalk.i64_left])
    refine (doAct_any e _ l R.2 (by ((repeat' (first | (with_reducible assumption) | (with_reducible apply MemAt.drew) | (with_reducible apply MemAt.drewN) | (with_reducible apply MemAt.alloc) | (with_reducible apply MemAt.setN))); all_goals (first | assumption | (simp only []; assumption) | (refine nl _ ?_; first | omega | (simp only []; omega) | (simp; omega))))) (ownX K x.size A.1.handle V false) (HCK.out _ _) KS.out).mono ?_
    rw [HS.out]
    rintro r wS ⟨rfl, h1, f1⟩
    have bE := At.fr (b := wa.heap.size) (t := 30) (vs := (e.arr l)) (by first | ((repeat' (first | (with_reducible assumption) | (with_reducible apply At.drew) | (with_reducible apply At.drewN) | (with_reducible refine At.newAt ?_; (simp; done)) | (with_reducible apply At.alloc) | (with_reducible apply At.set) | (with_reducible apply At.setOther))); all_goals (first | assumption | (apply Ne.symm; assumption) | omega | (simp only []; omega) | (simp; done) | (simp; omega))) | exact At.to (by ((repeat' (first | (with_reducible assumption) | (with_reducible apply At.drew) | (with_reducible apply At.drewN) | (with_reducible refine At.newAt ?_; (simp; done)) | (with_reducible apply At.alloc) | (with_reducible apply At.set) | (with_reducible apply At.setOther))); all_goals (first | assumption | (apply Ne.symm; assumption) | omega | (simp only []; omega) | (simp; done) | (simp; omega)))) (by (first | rfl | (simp [inc]; done) | (simp [inc, IntWalk.i64_left]; done)))) f1 (nl _ (by omega))
    have cbE := bE.cell
    have gbE := bE.frozen
    have lbE := bE.lt
    have bA := At.fr (b := wA.heap.size) (t := 36) (vs := A.1.arr) (by first | ((repeat' (first | (with_reducible assumption) | (with_reducible apply At.drew) | (with_reducible apply At.drewN) | (with_reducible refine At.newAt ?_; (simp; done)) | (with_reducible apply At.alloc) | (with_reducible apply At.set) | (with_reducible apply At.setOther))); all_goals (first | assumption | (apply Ne.symm; assumption) | omega | (simp only []; omega) | (simp; done) | (simp; omega))) | exact At.to (by ((repeat' (first | (with_reducible assumption) | (with_reducible apply At.drew) | (with_reducible apply At.drewN) | (with_reducible refine At.newAt ?_; (simp; done)) | (with_reducible apply At.alloc) | (with_reducible apply At.set) | (with_reducible apply At.setOther))); all_goals (first | assumption | (apply Ne.symm; assumption) | omega | (simp only []; omega) | (simp; done) | (simp; omega)))) (by (first | rfl | (simp [inc]; done) | (simp [inc, IntWalk.i64_left]; done)))) f1 (nl _ (by omega))
    have cbA := bA.cell
    have gbA := bA.frozen
    have lbA := bA.lt
    have bB := At.fr (b := wB.heap.size) (t := 36) (vs := B.1.arr) (by first | ((repeat' (first | (with_reducible assumption) | (with_reducible apply At.drew) | (with_reducible apply At.drewN) | (with_reducible refine At.newAt ?_; (simp; done)) | (with_reducible apply At.alloc) | (with_reducible apply At.set) | (with_reducible apply At.setOther))); all_goals (first | assumption | (apply Ne.symm; assumption) | omega | (simp only []; omega) | (simp; done) | (simp; omega))) | exact At.to (by ((repeat' (first | (with_reducible assumption) | (with_reducible apply At.drew) | (with_reducible apply At.drewN) | (with_reducible refine At.newAt ?_; (simp; done)) | (with_reducible apply At.alloc) | (with_reducible apply At.set) | (with_reducible apply At.setOther))); all_goals (first | assumption | (apply Ne.symm; assumption) | omega | (simp only []; omega) | (simp; done) | (simp; omega)))) (by (first | rfl | (simp [inc]; done) | (simp [inc, IntWalk.i64_left]; done)))) f1 (nl _ (by omega))
    have cbB := bB.cell
    have gbB := bB.frozen
    have lbB := bB.lt
    have bY := At.fr (b := wC.heap.size) (t := 91) (vs := #[.int .i64 K, .int .i64 x.size, .int .u64 A.1.handle, .int .i64 0, .int .i64 V, .int .i64 0, .bool false]) (by first | ((repeat' (first | (with_reducible assumption) | (with_reducible apply At.drew) | (with_reducible apply At.drewN) | (with_reducible refine At.newAt ?_; (simp; done)) | (with_reducible apply At.alloc) | (with_reducible apply At.set) | (with_reducible apply At.setOther))); all_goals (first | assumption | (apply Ne.symm; assumption) | omega | (simp only []; omega) | (simp; done) | (simp; omega))) | exact At.to (by ((repeat' (first | (with_reducible assumption) | (with_reducible apply At.drew) | (with_reducible apply At.drewN) | (with_reducible refine At.newAt ?_; (simp; done)) | (with_reducible apply At.alloc) | (with_reducible apply At.set) | (with_reducible apply At.setOther))); all_goals (first | assumption | (apply Ne.symm; assumption) | omega | (simp only []; omega) | (simp; done) | (simp; omega)))) (by (first | rfl | (simp [inc]; done) | (simp [inc, IntWalk.i64_left]; done)))) f1 (nl _ (by omega))
    have cbY := bY.cell
    have gbY := bY.frozen
    have lbY := bY.lt
    have bP := At.fr (b := wP.heap.size) (t := 36) (vs := P.1.arr) (by first | ((repeat' (first | (with_reducible assumption) | (with_reducible apply At.drew) | (with_reducible apply At.drewN) | (with_reducible refine At.newAt ?_; (simp; done)) | (with_reducible apply At.alloc) | (with_reducible apply At.set) | (with_reducible apply At.setOther))); all_goals (first | assumption | (apply Ne.symm; assumption) | omega | (simp only []; omega) | (simp; done) | (simp; omega))) | exact At.to (by ((repeat' (first | (with_reducible assumption) | (with_reducible apply At.drew) | (with_reducible apply At.drewN) | (with_reducible refine At.newAt ?_; (simp; done)) | (with_reducible apply At.alloc) | (with_reducible apply At.set) | (with_reducible apply At.setOther))); all_goals (first | assumption | (apply Ne.symm; assumption) | omega | (simp only []; omega) | (simp; done) | (simp; omega)))) (by (first | rfl | (simp [inc]; done) | (simp [inc, IntWalk.i64_left]; done)))) f1 (nl _ (by omega))
    have cbP := bP.cell
    have gbP := bP.frozen
    have lbP := bP.lt
    have bQ := At.fr (b := wQ.heap.size) (t := 36) (vs := Q.1.arr) (by first | ((repeat' (first | (with_reducible assumption) | (with_reducible apply At.drew) | (with_reducible apply At.drewN) | (with_reducible refine At.newAt ?_; (simp; done)) | (with_reducible apply At.alloc) | (with_reducible apply At.set) | (with_reducible apply At.setOther))); all_goals (first | assumption | (apply Ne.symm; assumption) | omega | (simp only []; omega) | (simp; done) | (simp; omega))) | exact At.to (by ((repeat' (first | (with_reducible assumption) | (with_reducible apply At.drew) | (with_reducible apply At.drewN) | (with_reducible refine At.newAt ?_; (simp; done)) | (with_reducible apply At.alloc) | (with_reducible apply At.set) | (with_reducible apply At.setOther))); all_goals (first | assumption | (apply Ne.symm; assumption) | omega | (simp only []; omega) | (simp; done) | (simp; omega)))) (by (first | rfl | (simp [inc]; done) | (simp [inc, IntWalk.i64_left]; done)))) f1 (nl _ (by omega))
    have cbQ := bQ.cell
    have gbQ := bQ.frozen
    have lbQ := bQ.lt
    have bR := At.fr (b := wR.heap.size) (t := 36) (vs := R.1.arr) (by first | ((repeat' (first | (with_reducible assumption) | (with_reducible apply At.drew) | (with_reducible apply At.drewN) | (with_reducible refine At.newAt ?_; (simp; done)) | (with_reducible apply At.alloc) | (with_reducible apply At.set) | (with_reducible apply At.setOther))); all_goals (first | assumption | (apply Ne.symm; assumption) | omega | (simp only []; omega) | (simp; done) | (simp; omega))) | exact At.to (by ((repeat' (first | (with_reducible assumption) | (with_reducible apply At.drew) | (with_reducible apply At.drewN) | (with_reducible refine At.newAt ?_; (simp; done)) | (with_reducible apply At.alloc) | (with_reducible apply At.set) | (with_reducible apply At.setOther))); all_goals (first | assumption | (apply Ne.symm; assumption) | omega | (simp only []; omega) | (simp; done) | (simp; omega)))) (by (first | rfl | (simp [inc]; done) | (simp [inc, IntWalk.i64_left]; done)))) f1 (nl _ (by omega))
    have cbR := bR.cell
    have gbR := bR.frozen
    have lbR := bR.lt
    have F1 := Fr.trans' (S := []) (a := w) (by ((repeat' (first | (with_reducible assumption) | (with_reducible exact Fr.refl _ _) | (with_reducible refine Fr.drew ?_) | (with_reducible refine Fr.drewN ?_ _) | (with_reducible refine Fr.alloc ?_ _) | (with_reducible refine Fr.setCell ?_ ?_ _))); all_goals (first | (left; simp only [List.mem_cons, true_or, or_true]; done) | (left; simp only [List.mem_cons, List.mem_append, true_or, or_true]; done) | (right; simp only []; omega) | (right; simp; done) | (right; simp; omega) | (left; simp; done)))) f1 HLN.out
    clear f1
    go_wp2
    go_ret
    exact ⟨rfl, by ((repeat' (first | (with_reducible assumption) | (with_reducible exact Fr.refl _ _) | (with_reducible refine Fr.drew ?_) | (with_reducible refine Fr.drewN ?_ _) | (with_reducible refine Fr.alloc ?_ _) | (with_reducible refine Fr.setCell ?_ ?_ _))); all_goals (first | (left; simp only [List.mem_cons, true_or, or_true]; done) | (left; simp only [List.mem_cons, List.mem_append, true_or, or_true]; done) | (right; simp only []; omega) | (right; simp; done) | (right; simp; omega) | (left; simp; done)))⟩
end Go.Proofs.Ytkgbifagledcaaa.FL
