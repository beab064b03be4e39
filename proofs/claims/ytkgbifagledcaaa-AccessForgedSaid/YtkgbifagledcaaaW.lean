/-
  By a handle that nobody made nothing is read or laid: the walk.
-/
import Derived.Test.YtkgbifagledcaaaU
import Derived.Test.YtkgbifagledcaaaPH
namespace Go.Proofs.Ytkgbifagledcaaa.FL
open Go Go.RowKit
set_option linter.unusedVariables false
set_option linter.unusedSimpArgs false
set_option maxRecDepth 20000
set_option maxHeartbeats 4000000
attribute [local go_sem ↓] Go.wp_at_zero Go.wp_at_succ
attribute [local go_sem] fieldSlot0 fieldSlot1 fieldSlot2 fieldSlot3 fieldChunk0 fieldChunk1 fieldChunk3 fieldCell0
attribute [local go_sem] fieldDone0 fieldDone1 fieldDone2 fieldDone3

theorem and_i64 (x : Int) (k : Nat) (hk : k ≤ 62) : bits .and .i64 x ((2 : Int) ^ k - 1) = x % (2 : Int) ^ k := by
  have h := and_mask x k (by omega)
  have hp : (0 : Int) < (2 : Int) ^ k := by exact_mod_cast Nat.pow_pos (n := k) (show 0 < 2 by omega)
  have hle : (2 : Int) ^ k ≤ (2 : Int) ^ 62 := by exact_mod_cast Nat.pow_le_pow_right (show 0 < 2 by omega) hk
  have h1 : 0 ≤ x % (2 : Int) ^ k := Int.emod_nonneg x (by omega)
  have h2 : x % (2 : Int) ^ k < (2 : Int) ^ k := Int.emod_lt_of_pos x hp
  have e1 : IntKind.u64.wrap ((BitVec.ofInt 64 x &&& BitVec.ofInt 64 ((2 : Int) ^ k - 1)).toNat : Int) = x % (2 : Int) ^ k := h
  show IntKind.i64.wrap ((BitVec.ofInt 64 x &&& BitVec.ofInt 64 ((2 : Int) ^ k - 1)).toNat : Int) = _
  rw [IntKind.wrap_u64] at e1
  rw [IntKind.wrap_i64]
  have hb : ((BitVec.ofInt 64 x &&& BitVec.ofInt 64 ((2 : Int) ^ k - 1)).toNat : Int) < 18446744073709551616 := by
    have := (BitVec.ofInt 64 x &&& BitVec.ofInt 64 ((2 : Int) ^ k - 1)).isLt; omega
  omega
theorem and15_i64 (x : Int) : bits .and .i64 x 15 = x % 16 := and_i64 x 4 (by omega)
theorem sizeIn_go (v : Int) : wrap64 (1 + bits .and .i64 v 15) = sizeIn v := by
  rw [and15_i64, wrap64_in _ (by omega) (by omega)]; rfl
theorem even_go (v : Int) : (v.tmod 2 == 0) = decide (v % 2 = 0) := by
  rw [show (v.tmod 2 == 0) = decide (v.tmod 2 = 0) from rfl]
  congr 1
  apply propext
  rw [Int.tmod_eq_emod]
  split <;> omega
theorem valueOf_any (n : Int) (w : World) : Calls Try.prog 25 #[.int .i64 n] w fun r w' => r = .returned (.int .i64 (bits .and .i64 n 1099511627775)) ∧ w = w' := by
  go_enter Try.func25, Try.ntmps25
  go_wp2
  go_ret
  exact ⟨rfl, rfl⟩

def CutF (wa w wx : World) (e : Env) (l : Loc) (m : Mem) (x : Want) (d : Done) (s : Value) : Prop :=
  ∃ k, s = .pointer (some ⟨k, 0, none⟩) ∧ wa.heap.size < k ∧ At wx k 36 d.arr ∧ At wx wa.heap.size 30 (e.arr l) ∧ At wx w.heap.size 25 x.arr ∧ MemAt wx l m ∧ Fr [] w wx
def ForgedRel (wa w wr : World) (e : Env) (l : Loc) (x : Want) (own : Bool) (l0 : List Int) (m0 : Mem) (k : Nat) : Prop :=
  ∃ m, MemAt wr l m ∧ At wr wa.heap.size 30 (e.arr l) ∧ At wr w.heap.size 25 x.arr ∧ Fr [] w wr ∧ forgedLoop e x own ((l0.take 6).drop k) m = forgedLoop e x own (l0.take 6) m0

def CopyRel (wa w wr : World) (e : Env) (l : Loc) (m : Mem) (x : Want) (BW k : Nat) : Prop :=
  MemAt wr l m ∧ At wr wa.heap.size 30 (e.arr l) ∧ At wr w.heap.size 25 x.arr ∧ At wr BW 23 ((m.w.take k ++ List.replicate (m.w.length - k) 0).map (Value.int .u64)).toArray ∧ Fr [] w wr
def LookRel (wa w wr : World) (e : Env) (l : Loc) (m m' : Mem) (BW BD : Nat) (d : Done) : Prop :=
  MemAt wr l m' ∧ At wr wa.heap.size 30 (e.arr l) ∧ At wr BW 23 (m.w.map (Value.int .u64)).toArray ∧ At wr BD 36 d.arr ∧ Fr [] w wr
theorem copy_start (m : Mem) : ∀ {a : Array Value}, a = ((List.replicate m.w.length (0 : Int)).map (Value.int .u64)).toArray → a = ((m.w.take 0 ++ List.replicate (m.w.length - 0) 0).map (Value.int .u64)).toArray := fun h => by simpa using h
theorem copy_at (m : Mem) (k : Nat) (h : k < m.w.length) : ((m.w.take k ++ List.replicate (m.w.length - k) 0).map (Value.int .u64)).toArray[k]? = some (.int .u64 0) := by
  have hl : (m.w.take k).length = k := by rw [List.length_take]; omega
  rw [List.getElem?_toArray, List.getElem?_map, List.getElem?_append_right (by omega), hl, Nat.sub_self, List.getElem?_replicate, if_pos (by omega)]
  rfl
theorem copy_set (m : Mem) (k : Nat) (h : k < m.w.length) : ((m.w.take k ++ List.replicate (m.w.length - k) 0).map (Value.int .u64)).toArray.setIfInBounds k (.int .u64 (m.w.getD k 0)) = ((m.w.take (k + 1) ++ List.replicate (m.w.length - (k + 1)) 0).map (Value.int .u64)).toArray := by
  rw [List.setIfInBounds_toArray, ← List.map_set]
  congr 2
  have hl : (m.w.take k).length = k := by rw [List.length_take]; omega
  rw [List.set_append_right _ _ (by omega), hl, Nat.sub_self, show m.w.length - k = (m.w.length - (k + 1)) + 1 by omega, List.replicate_succ, List.set_cons_zero, List.take_add_one, List.append_assoc]
  congr 1
  rw [List.getD_eq_getElem?_getD, List.getElem?_eq_getElem h]
  rfl
theorem copy_all (m : Mem) : ((m.w.take m.w.length ++ List.replicate (m.w.length - m.w.length) 0).map (Value.int .u64)).toArray = (m.w.map (Value.int .u64)).toArray := by simp
def YW (x : Want) : Want := ⟨wrap64 (1 + (wrap64 (x.kind.tmod 3 + 3)).tmod 3), x.handle, x.index, bits .and .i64 x.value 1099511627775, bits .and .i64 x.old 1099511627775⟩
theorem doIt_forged (e : Env) (w : World) (l : Loc) (m : Mem) (h : MemAt w l m) (x : Want) (own : Bool) (hf : ∀ y : Want, y.handle = x.handle → (doIt e m y own).1.e = 3 ∧ (doIt e m y own).1.value = 0 ∧ (doIt e m y own).2.w = m.w) (y : Want) (hy : y.handle = x.handle) :
    Calls Try.prog 26 #[.agg (e.arr l), .agg y.arr, .bool own] w fun r w' => ∃ (d : Done) (m' : Mem), r = .returned (.agg d.arr) ∧ d.e = 3 ∧ d.value = 0 ∧ m'.w = m.w ∧ MemAt w' l m' ∧ Fr l.list w w' := by
  refine (doIt_any e w l m h y own).mono ?_
  rintro r w' ⟨rfl, h1, f1⟩
  obtain ⟨q1, q2, q3⟩ := hf y hy
  exact ⟨_, _, rfl, q1, q2, q3, h1, f1⟩
theorem Fr.cellOld' {S : List Nat} {w w' : World} (f : Fr S w w') {b o : Nat} (h : b < w.heap.size) (hs : b ∉ S := by simp) : w'.cell? ⟨b, o, none⟩ = w.cell? ⟨b, o, none⟩ := by
  have := f.block b h hs
  simp [World.cell?, this]
theorem forged_walk (e : Env) (m0 : Mem) (he : arenaEnv 1 8 4 40 = e) (hm0 : (arenaCfg 1 8 4 40).fresh = m0) (x : Want) (own : Bool) (a0 : Option Addr) (len0 cap0 : Nat) (l0 : List Int) (w : World) (hlen : l0.length = len0) (hx : 0 ≤ x.handle)
    (hrow : ∀ k, k < len0 → ∃ b off, a0 = some ⟨b, off, none⟩ ∧ b < w.heap.size ∧ w.cell? ⟨b, off + k, none⟩ = some (.int .i64 (l0.getD k 0))) :
    Calls Try.prog 3 #[.slice a0 len0 cap0, .agg x.arr, .bool own] w fun r w' => r = .returned (.bool true) ∧ Fr [] w w' := by
  have hc := fun w => arena_any 1 8 4 40 w (by decide +kernel) (by decide +kernel) (by decide +kernel) (by decide +kernel)
  rw [he] at hc
  rw [hm0] at hc
  have HC := hid hc
  have HE0 := hid he
  have HM0 := hid hm0
  have HROW := hid hrow
  have HLEN := hid hlen
  have HX := hid hx
  clear hc hrow hlen he hm0 hx
  have bX0 := At.new w 25 x.arr
  go_enter Try.func3, Try.ntmps3
  go_wp2_with fail
  refine (HC.out _).mono ?_
  rintro r wa ⟨l, rfl, hl, h, fa⟩
  have bX := At.fr (b := w.heap.size) (t := 25) (vs := x.arr) (by ((repeat' (first | (with_reducible assumption) | (with_reducible apply At.drew) | (with_reducible apply At.drewN) | (with_reducible refine At.newAt ?_; (simp; done)) | (with_reducible apply At.alloc) | (with_reducible apply At.set) | (with_reducible apply At.setOther))); all_goals (first | assumption | (apply Ne.symm; assumption) | omega | (simp only []; omega) | (simp; done) | (simp; omega)))) fa (by simp)
  have cX_ := bX.cell
  have lX_ := bX.lt
  have lm := h.hd.lt
  have nl : ∀ k, wa.heap.size ≤ k → k ∉ l.list := fun k hk => h.nin hk
  have nX : w.heap.size ∉ l.list := fun q => by have := hl _ q; simp at this; omega
  have nE := nl wa.heap.size (Nat.le_refl _)
  have HLN := hid (show ∀ x ∈ l.list, x < w.heap.size → x ∈ ([] : List Nat) from fun x hx hxw => by have := hl x hx; simp at this; omega)
  have FA : Fr [] w wa := Fr.trans' (S := []) (by ((repeat' (first | (with_reducible assumption) | (with_reducible exact Fr.refl _ _) | (with_reducible refine Fr.drew ?_) | (with_reducible refine Fr.drewN ?_ _) | (with_reducible refine Fr.alloc ?_ _) | (with_reducible refine Fr.setCell ?_ ?_ _))); all_goals (first | (left; simp only [List.mem_cons, true_or, or_true]; done) | (left; simp only [List.mem_cons, List.mem_append, true_or, or_true]; done) | (right; simp only []; omega) | (right; simp; done) | (right; simp; omega) | (left; simp; done)))) fa (by simp)
  clear hl fa
  go_wp2_with fail
  refine (awake10_any _).mono ?_
  rintro r w1 ⟨rfl, f1⟩
  have bE := At.fr (b := wa.heap.size) (t := 30) (vs := e.arr l) (by ((repeat' (first | (with_reducible assumption) | (with_reducible apply At.drew) | (with_reducible apply At.drewN) | (with_reducible refine At.newAt ?_; (simp; done)) | (with_reducible apply At.alloc) | (with_reducible apply At.set) | (with_reducible apply At.setOther))); all_goals (first | assumption | (apply Ne.symm; assumption) | omega | (simp only []; omega) | (simp; done) | (simp; omega)))) f1 (by simp)
  have bX := At.fr (b := w.heap.size) (t := 25) (vs := x.arr) (by ((repeat' (first | (with_reducible assumption) | (with_reducible apply At.drew) | (with_reducible apply At.drewN) | (with_reducible refine At.newAt ?_; (simp; done)) | (with_reducible apply At.alloc) | (with_reducible apply At.set) | (with_reducible apply At.setOther))); all_goals (first | assumption | (apply Ne.symm; assumption) | omega | (simp only []; omega) | (simp; done) | (simp; omega)))) f1 (by simp)
  have cE := bE.cell
  have cX_ := bX.cell
  have lE := bE.lt
  have h1 := MemAt.frl (l := l) (by ((repeat' (first | (with_reducible assumption) | (with_reducible apply MemAt.drew) | (with_reducible apply MemAt.drewN) | (with_reducible apply MemAt.alloc) | (with_reducible apply MemAt.setN))); all_goals (first | assumption | (simp only []; assumption) | (refine nl _ ?_; first | omega | (simp only []; omega) | (simp; omega))))) f1 (by simp)
  have F1 := Fr.sub (S := []) (a := w) (by ((repeat' (first | (with_reducible assumption) | (with_reducible exact Fr.refl _ _) | (with_reducible refine Fr.drew ?_) | (with_reducible refine Fr.drewN ?_ _) | (with_reducible refine Fr.alloc ?_ _) | (with_reducible refine Fr.setCell ?_ ?_ _))); all_goals (first | (left; simp only [List.mem_cons, true_or, or_true]; done) | (left; simp only [List.mem_cons, List.mem_append, true_or, or_true]; done) | (right; simp only []; omega) | (right; simp; done) | (right; simp; omega) | (left; simp; done)))) f1 (by simp)
  clear f1
  go_wp2
  go_loopw [9] (fun i wr => ∃ k : Nat, k ≤ 6 ∧ i = .int .i64 (k : Int) ∧ ForgedRel wa w wr e l x own l0 m0 k) (fun i _ => 6 - (intOf i).toNat)
  case atStart => exact ⟨0, by omega, rfl, m0, h1, bE, bX, F1, rfl⟩
  case round =>
    obtain ⟨k, hk, rfl, m, h1, bE, bX, F1, hrun⟩ := hrel
    have cE := bE.cell
    have cX_ := bX.cell
    have lE := bE.lt
    have lX_ := bX.lt
    have HRUN := hid hrun
    clear hrun
    by_cases hlt : k < len0 ∧ k < 6
    · obtain ⟨ba, off, rfl, hba, hc⟩ := HROW.out k hlt.1
      obtain ⟨v, hv⟩ : ∃ v, l0.getD k 0 = v := ⟨_, rfl⟩
      have hc' : wr.cell? ⟨ba, off + k, none⟩ = some (.int .i64 v) := by
        rw [← hv, ← hc]; exact F1.cellOld' hba
      have HC0 := hid (show w.cell? ⟨ba, off + k, none⟩ = some (.int .i64 v) by rw [← hv]; exact hc)
      have lba : ba < wr.heap.size := by have := F1.size; omega
      have hcons : (l0.take 6).drop k = v :: (l0.take 6).drop (k + 1) := by
        rw [List.drop_eq_getElem_cons (by rw [List.length_take, HLEN.out]; omega)]
        congr 1
        rw [List.getElem_take, ← hv, List.getD_eq_getElem?_getD, List.getElem?_eq_getElem (by rw [HLEN.out]; omega)]; rfl
      obtain ⟨D, hD⟩ : ∃ D, make e m (sizeIn v) (decide (v % 2 = 0)) = D := ⟨_, rfl⟩
      have HD := hid hD
      have HCONS := hid hcons
      have i1 : (k : Int) < len0 := by omega
      have i2 : (k : Int) < 6 := by omega
      have HLT := hid hlt
      have e15 := sizeIn_go v
      have e2 := even_go v
      have E15 := hid e15
      have E2 := hid e2
      clear hc hv hcons hD hlt e15 e2
      go_wp2_with fail
      go_upto_region 7 with (fail)
      go_cut [10] (fun s10 wx => CutF wa w wx e l D.2 x D.1 s10)
      case first =>
        have z1 := F1.size
        have nba : ba ≠ wr.heap.size := by omega
        have nba' : wr.heap.size ≠ ba := by omega
        go_region_held3 (fun w' => (∀ i, w'.cell? ⟨wa.heap.size, i, none⟩ = (e.arr l)[i]?) ∧ w'.cell? ⟨ba, off + k, none⟩ = some (.int .i64 v)) (((try dsimp only); (repeat' apply And.intro); all_goals (first | with_reducible exact b1.cell | with_reducible exact p1 | with_reducible assumption | (refine At.cell (t := 30) ?_; ((repeat' (first | (with_reducible assumption) | (with_reducible apply At.drew) | (with_reducible apply At.drewN) | (with_reducible refine At.newAt ?_; (simp; done)) | (with_reducible apply At.alloc) | (with_reducible apply At.set) | (with_reducible apply At.setOther))); all_goals (first | assumption | (apply Ne.symm; assumption) | omega | (simp only []; omega) | (simp; done) | (simp; omega)))) | (refine At.cells (by ((repeat' (first | (with_reducible assumption) | (with_reducible apply At.drew) | (with_reducible apply At.drewN) | (with_reducible refine At.newAt ?_; (simp; done)) | (with_reducible apply At.alloc) | (with_reducible apply At.set) | (with_reducible apply At.setOther))); all_goals (first | assumption | (apply Ne.symm; assumption) | omega | (simp only []; omega) | (simp; done) | (simp; omega)))) ?_; (first | rfl | (simp; done))) | (rw [World.cell?_setCell_other _ _ _ _ (by simp)]; assumption) | (refine (At.cell (by ((repeat' (first | (with_reducible assumption) | (with_reducible apply At.drew) | (with_reducible apply At.drewN) | (with_reducible refine At.newAt ?_; (simp; done)) | (with_reducible apply At.alloc) | (with_reducible apply At.set) | (with_reducible apply At.setOther))); all_goals (first | assumption | (apply Ne.symm; assumption) | omega | (simp only []; omega) | (simp; done) | (simp; omega)))) _).trans ?_; (simp; done)) | (go_keep; done)))) (first | (go_at_call 22; (try simp only [IntWalk.i64_left]); rw [E15.out, E2.out]; refine (make_any e _ l m (by ((repeat' (first | (with_reducible assumption) | (with_reducible apply MemAt.drew) | (with_reducible apply MemAt.drewN) | (with_reducible apply MemAt.alloc) | (with_reducible apply MemAt.setN))); all_goals (first | assumption | (simp only []; assumption) | (refine nl _ ?_; first | omega | (simp only []; omega) | (simp; omega))))) _ _).mono ?_; rw [HD.out]; rintro r w1 ⟨rfl, h1, f1⟩; (first | (have LX := At.fr (At.new _ 36 _) f1 (nl _ (by (try simp only [World.size_alloc, World.size_drew, World.size_setCell]); omega)); (try simp only [World.size_alloc, World.size_drew, World.size_setCell] at LX); have cX := LX.cell; have gX := LX.frozen; have lX := LX.lt) | (have LX := At.fr (At.drew (At.new _ 36 _)) f1 (nl _ (by (try simp only [World.size_alloc, World.size_drew, World.size_setCell]); omega)); (try simp only [World.size_alloc, World.size_drew, World.size_setCell] at LX); have cX := LX.cell; have gX := LX.frozen; have lX := LX.lt) | (have LX := LX.fr f1 (nl _ (by omega)); (try simp only [World.size_alloc, World.size_drew, World.size_setCell] at LX); have cX := LX.cell; have gX := LX.frozen; have lX := LX.lt) | skip); have bE := At.fr (b := wa.heap.size) (t := 30) (vs := e.arr l) (by ((repeat' (first | (with_reducible assumption) | (with_reducible apply At.drew) | (with_reducible apply At.drewN) | (with_reducible refine At.newAt ?_; (simp; done)) | (with_reducible apply At.alloc) | (with_reducible apply At.set) | (with_reducible apply At.setOther))); all_goals (first | assumption | (apply Ne.symm; assumption) | omega | (simp only []; omega) | (simp; done) | (simp; omega)))) f1 nE; have bX := At.fr (b := w.heap.size) (t := 25) (vs := x.arr) (by ((repeat' (first | (with_reducible assumption) | (with_reducible apply At.drew) | (with_reducible apply At.drewN) | (with_reducible refine At.newAt ?_; (simp; done)) | (with_reducible apply At.alloc) | (with_reducible apply At.set) | (with_reducible apply At.setOther))); all_goals (first | assumption | (apply Ne.symm; assumption) | omega | (simp only []; omega) | (simp; done) | (simp; omega)))) f1 nX; have cE := bE.cell; have cX_ := bX.cell; have lE := bE.lt; have F1 := Fr.trans' (S := []) (a := w) (by ((repeat' (first | (with_reducible assumption) | (with_reducible exact Fr.refl _ _) | (with_reducible refine Fr.drew ?_) | (with_reducible refine Fr.drewN ?_ _) | (with_reducible refine Fr.alloc ?_ _) | (with_reducible refine Fr.setCell ?_ ?_ _))); all_goals (first | (left; simp only [List.mem_cons, true_or, or_true]; done) | (left; simp only [List.mem_cons, List.mem_append, true_or, or_true]; done) | (right; simp only []; omega) | (right; simp; done) | (right; simp; omega) | (left; simp; done)))) f1 HLN.out; have z1 := F1.size; have hc' := (Fr.cellOld' F1 hba).trans HC0.out))
        all_goals (go_wp2_with fail; go_meet; refine ⟨_, rfl, ?_, ?_, ?_, ?_, ?_, ?_⟩; (focus (first | omega | (simp only [World.size_alloc, World.size_drew, World.size_setCell]; omega))); (focus (refine At.to (by ((repeat' (first | (with_reducible assumption) | (with_reducible apply At.drew) | (with_reducible apply At.drewN) | (with_reducible refine At.newAt ?_; (simp; done)) | (with_reducible apply At.alloc) | (with_reducible apply At.set) | (with_reducible apply At.setOther))); all_goals (first | assumption | (apply Ne.symm; assumption) | omega | (simp only []; omega) | (simp; done) | (simp; omega)))) ?_; (first | rfl | (simp [inc]; done) | (simp [inc, IntWalk.i64_left]; done)))); (focus (refine At.to (by ((repeat' (first | (with_reducible assumption) | (with_reducible apply At.drew) | (with_reducible apply At.drewN) | (with_reducible refine At.newAt ?_; (simp; done)) | (with_reducible apply At.alloc) | (with_reducible apply At.set) | (with_reducible apply At.setOther))); all_goals (first | assumption | (apply Ne.symm; assumption) | omega | (simp only []; omega) | (simp; done) | (simp; omega)))) ?_; (first | rfl | (simp [inc]; done) | (simp [inc, IntWalk.i64_left]; done)))); (focus (refine At.to (by ((repeat' (first | (with_reducible assumption) | (with_reducible apply At.drew) | (with_reducible apply At.drewN) | (with_reducible refine At.newAt ?_; (simp; done)) | (with_reducible apply At.alloc) | (with_reducible apply At.set) | (with_reducible apply At.setOther))); all_goals (first | assumption | (apply Ne.symm; assumption) | omega | (simp only []; omega) | (simp; done) | (simp; omega)))) ?_; (first | rfl | (simp [inc]; done) | (simp [inc, IntWalk.i64_left]; done)))); (focus ((repeat' (first | (with_reducible assumption) | (with_reducible apply MemAt.drew) | (with_reducible apply MemAt.drewN) | (with_reducible apply MemAt.alloc) | (with_reducible apply MemAt.setN))); all_goals (first | assumption | (simp only []; assumption) | (refine nl _ ?_; first | omega | (simp only []; omega) | (simp; omega))))); (focus ((repeat' (first | (with_reducible assumption) | (with_reducible exact Fr.refl _ _) | (with_reducible refine Fr.drew ?_) | (with_reducible refine Fr.drewN ?_ _) | (with_reducible refine Fr.alloc ?_ _) | (with_reducible refine Fr.setCell ?_ ?_ _))); all_goals (first | (left; simp only [List.mem_cons, true_or, or_true]; done) | (left; simp only [List.mem_cons, List.mem_append, true_or, or_true]; done) | (right; simp only []; omega) | (right; simp; done) | (right; simp; omega) | (left; simp; done)))))
      case rest =>
        obtain ⟨k10, rfl, lk, LX, bE, bX, h1, F1⟩ := hcut
        have cX := LX.cell
        have gX := LX.frozen
        have lX := LX.lt
        have cE := bE.cell
        have cX_ := bX.cell
        have lE := bE.lt
        have lX_ := bX.lt
        have hc' := (Fr.cellOld' F1 hba).trans HC0.out
        have e2 := E2.out
        by_cases q1 : D.1.e = 0
        · have d1 : (D.1.e == 0) = true := by simpa using q1
          by_cases q2 : D.1.handle = x.handle
          · have d2 : (D.1.handle == x.handle) = true := by simpa using q2
            by_cases q3 : decide (v % 2 = 0) = own
            · have d3 : (decide (v % 2 = 0) == own) = true := by simpa using q3
              clear q1 q2 q3
              go_wp2
              go_ret
              exact ⟨rfl, by ((repeat' (first | (with_reducible assumption) | (with_reducible exact Fr.refl _ _) | (with_reducible refine Fr.drew ?_) | (with_reducible refine Fr.drewN ?_ _) | (with_reducible refine Fr.alloc ?_ _) | (with_reducible refine Fr.setCell ?_ ?_ _))); all_goals (first | (left; simp only [List.mem_cons, true_or, or_true]; done) | (left; simp only [List.mem_cons, List.mem_append, true_or, or_true]; done) | (right; simp only []; omega) | (right; simp; done) | (right; simp; omega) | (left; simp; done)))⟩
            · have Q := hid (show ¬ (D.1.e = 0 ∧ D.1.handle = x.handle ∧ decide (v % 2 = 0) = own) from fun q => q3 q.2.2)
              have d3 : (decide (v % 2 = 0) == own) = false := by simpa using q3
              clear q1 q2 q3
              have HRUN' : Hid (forgedLoop e x own ((l0.take 6).drop (k + 1)) D.2 = forgedLoop e x own (l0.take 6) m0) := hid (by
                rw [← HRUN.out, HCONS.out, forgedLoop]
                simp only [HD.out]
                rw [if_neg Q.out])
              have hk6 := HLT.out.2
              go_wp2
              go_roundw
              case rel => exact ⟨k + 1, by omega, by simp, D.2, (by ((repeat' (first | (with_reducible assumption) | (with_reducible apply MemAt.drew) | (with_reducible apply MemAt.drewN) | (with_reducible apply MemAt.alloc) | (with_reducible apply MemAt.setN))); all_goals (first | assumption | (simp only []; assumption) | (refine nl _ ?_; first | omega | (simp only []; omega) | (simp; omega))))), (by ((repeat' (first | (with_reducible assumption) | (with_reducible apply At.drew) | (with_reducible apply At.drewN) | (with_reducible refine At.newAt ?_; (simp; done)) | (with_reducible apply At.alloc) | (with_reducible apply At.set) | (with_reducible apply At.setOther))); all_goals (first | assumption | (apply Ne.symm; assumption) | omega | (simp only []; omega) | (simp; done) | (simp; omega)))), (by ((repeat' (first | (with_reducible assumption) | (with_reducible apply At.drew) | (with_reducible apply At.drewN) | (with_reducible refine At.newAt ?_; (simp; done)) | (with_reducible apply At.alloc) | (with_reducible apply At.set) | (with_reducible apply At.setOther))); all_goals (first | assumption | (apply Ne.symm; assumption) | omega | (simp only []; omega) | (simp; done) | (simp; omega)))), (by ((repeat' (first | (with_reducible assumption) | (with_reducible exact Fr.refl _ _) | (with_reducible refine Fr.drew ?_) | (with_reducible refine Fr.drewN ?_ _) | (with_reducible refine Fr.alloc ?_ _) | (with_reducible refine Fr.setCell ?_ ?_ _))); all_goals (first | (left; simp only [List.mem_cons, true_or, or_true]; done) | (left; simp only [List.mem_cons, List.mem_append, true_or, or_true]; done) | (right; simp only []; omega) | (right; simp; done) | (right; simp; omega) | (left; simp; done)))), HRUN'.out⟩
              case measure => simp [intOf]; omega
          · have Q := hid (show ¬ (D.1.e = 0 ∧ D.1.handle = x.handle ∧ decide (v % 2 = 0) = own) from fun q => q2 q.2.1)
            have d2 : (D.1.handle == x.handle) = false := by simpa using q2
            clear q1 q2
            have HRUN' : Hid (forgedLoop e x own ((l0.take 6).drop (k + 1)) D.2 = forgedLoop e x own (l0.take 6) m0) := hid (by
              rw [← HRUN.out, HCONS.out, forgedLoop]
              simp only [HD.out]
              rw [if_neg Q.out])
            have hk6 := HLT.out.2
            go_wp2
            go_roundw
            case rel => exact ⟨k + 1, by omega, by simp, D.2, (by ((repeat' (first | (with_reducible assumption) | (with_reducible apply MemAt.drew) | (with_reducible apply MemAt.drewN) | (with_reducible apply MemAt.alloc) | (with_reducible apply MemAt.setN))); all_goals (first | assumption | (simp only []; assumption) | (refine nl _ ?_; first | omega | (simp only []; omega) | (simp; omega))))), (by ((repeat' (first | (with_reducible assumption) | (with_reducible apply At.drew) | (with_reducible apply At.drewN) | (with_reducible refine At.newAt ?_; (simp; done)) | (with_reducible apply At.alloc) | (with_reducible apply At.set) | (with_reducible apply At.setOther))); all_goals (first | assumption | (apply Ne.symm; assumption) | omega | (simp only []; omega) | (simp; done) | (simp; omega)))), (by ((repeat' (first | (with_reducible assumption) | (with_reducible apply At.drew) | (with_reducible apply At.drewN) | (with_reducible refine At.newAt ?_; (simp; done)) | (with_reducible apply At.alloc) | (with_reducible apply At.set) | (with_reducible apply At.setOther))); all_goals (first | assumption | (apply Ne.symm; assumption) | omega | (simp only []; omega) | (simp; done) | (simp; omega)))), (by ((repeat' (first | (with_reducible assumption) | (with_reducible exact Fr.refl _ _) | (with_reducible refine Fr.drew ?_) | (with_reducible refine Fr.drewN ?_ _) | (with_reducible refine Fr.alloc ?_ _) | (with_reducible refine Fr.setCell ?_ ?_ _))); all_goals (first | (left; simp only [List.mem_cons, true_or, or_true]; done) | (left; simp only [List.mem_cons, List.mem_append, true_or, or_true]; done) | (right; simp only []; omega) | (right; simp; done) | (right; simp; omega) | (left; simp; done)))), HRUN'.out⟩
            case measure => simp [intOf]; omega
        · have Q := hid (show ¬ (D.1.e = 0 ∧ D.1.handle = x.handle ∧ decide (v % 2 = 0) = own) from fun q => q1 q.1)
          have d1 : (D.1.e == 0) = false := by simpa using q1
          clear q1
          have HRUN' : Hid (forgedLoop e x own ((l0.take 6).drop (k + 1)) D.2 = forgedLoop e x own (l0.take 6) m0) := hid (by
            rw [← HRUN.out, HCONS.out, forgedLoop]
            simp only [HD.out]
            rw [if_neg Q.out])
          have hk6 := HLT.out.2
          go_wp2
          go_roundw
          case rel => exact ⟨k + 1, by omega, by simp, D.2, (by ((repeat' (first | (with_reducible assumption) | (with_reducible apply MemAt.drew) | (with_reducible apply MemAt.drewN) | (with_reducible apply MemAt.alloc) | (with_reducible apply MemAt.setN))); all_goals (first | assumption | (simp only []; assumption) | (refine nl _ ?_; first | omega | (simp only []; omega) | (simp; omega))))), (by ((repeat' (first | (with_reducible assumption) | (with_reducible apply At.drew) | (with_reducible apply At.drewN) | (with_reducible refine At.newAt ?_; (simp; done)) | (with_reducible apply At.alloc) | (with_reducible apply At.set) | (with_reducible apply At.setOther))); all_goals (first | assumption | (apply Ne.symm; assumption) | omega | (simp only []; omega) | (simp; done) | (simp; omega)))), (by ((repeat' (first | (with_reducible assumption) | (with_reducible apply At.drew) | (with_reducible apply At.drewN) | (with_reducible refine At.newAt ?_; (simp; done)) | (with_reducible apply At.alloc) | (with_reducible apply At.set) | (with_reducible apply At.setOther))); all_goals (first | assumption | (apply Ne.symm; assumption) | omega | (simp only []; omega) | (simp; done) | (simp; omega)))), (by ((repeat' (first | (with_reducible assumption) | (with_reducible exact Fr.refl _ _) | (with_reducible refine Fr.drew ?_) | (with_reducible refine Fr.drewN ?_ _) | (with_reducible refine Fr.alloc ?_ _) | (with_reducible refine Fr.setCell ?_ ?_ _))); all_goals (first | (left; simp only [List.mem_cons, true_or, or_true]; done) | (left; simp only [List.mem_cons, List.mem_append, true_or, or_true]; done) | (right; simp only []; omega) | (right; simp; done) | (right; simp; omega) | (left; simp; done)))), HRUN'.out⟩
          case measure => simp [intOf]; omega
    · have hnil : (l0.take 6).drop k = [] := by
        apply List.drop_eq_nil_of_le
        rw [List.length_take, HLEN.out]; omega
      have hf : forgedLoop e x own (l0.take 6) m0 = (false, m) := by
        rw [← HRUN.out, hnil, forgedLoop]
      have HFL := hid (show ∀ y : Want, y.handle = x.handle → (doIt e m y own).1.e = 3 ∧ (doIt e m y own).1.value = 0 ∧ (doIt e m y own).2.w = m.w from fun y hy => by
        have q := forged_law (l0.take 6) x own HX.out
        rw [HE0.out] at q
        rw [HM0.out] at q
        rw [hf] at q
        exact q rfl y hy)
      have hcase : (len0 : Int) ≤ k ∨ ((k : Int) < len0 ∧ (6 : Int) ≤ k) := by omega
      have hsm := h1.small
      have mk := fun w => makeU64 w m.w.length hsm
      clear hnil hf hlt
      have HCASE := hid hcase
      clear hcase
      go_upto_region 5 with (fail)
      go_cut [32] (fun s32 wx => s32 = .bool false ∧ MemAt wx l m ∧ At wx wa.heap.size 30 (e.arr l) ∧ At wx w.heap.size 25 x.arr ∧ Fr [] w wx)
      case first =>
        rcases HCASE.out with i1 | ⟨i1, i2⟩
        · go_wp2_with fail
          go_meet
          exact ⟨(by first | rfl | (simp only [Value.bool.injEq, decide_eq_false_iff_not]; omega)), h1, bE, bX, F1⟩
        · go_wp2_with fail
          go_meet
          exact ⟨(by first | rfl | (simp only [Value.bool.injEq, decide_eq_false_iff_not]; omega)), h1, bE, bX, F1⟩
      case rest =>
        obtain ⟨rfl, h1, bE, bX, F1⟩ := hcut
        have cE := bE.cell
        have cX_ := bX.cell
        have lE := bE.lt
        have lX_ := bX.lt
        obtain ⟨wo, rfl⟩ : ∃ wo : World, wo = wc := ⟨_, rfl⟩
        go_wp2_with (go_at_call 23; (try simp only [IntWalk.i64_left]); refine (len_any _ l m (by ((repeat' (first | (with_reducible assumption) | (with_reducible apply MemAt.drew) | (with_reducible apply MemAt.drewN) | (with_reducible apply MemAt.alloc) | (with_reducible apply MemAt.setN))); all_goals (first | assumption | (simp only []; assumption) | (refine nl _ ?_; first | omega | (simp only []; omega) | (simp; omega)))))).mono ?_; rintro r w9 ⟨rfl, rfl⟩)
        go_loopw [12] (fun i wr => ∃ k2 : Nat, k2 ≤ m.w.length ∧ i = .int .i64 (k2 : Int) ∧ CopyRel wa w wr e l m x wo.heap.size k2) (fun i _ => m.w.length - (intOf i).toNat)
        case atStart => exact ⟨0, by omega, rfl, (by ((repeat' (first | (with_reducible assumption) | (with_reducible apply MemAt.drew) | (with_reducible apply MemAt.drewN) | (with_reducible apply MemAt.alloc) | (with_reducible apply MemAt.setN))); all_goals (first | assumption | (simp only []; assumption) | (refine nl _ ?_; first | omega | (simp only []; omega) | (simp; omega))))), (by ((repeat' (first | (with_reducible assumption) | (with_reducible apply At.drew) | (with_reducible apply At.drewN) | (with_reducible refine At.newAt ?_; (simp; done)) | (with_reducible apply At.alloc) | (with_reducible apply At.set) | (with_reducible apply At.setOther))); all_goals (first | assumption | (apply Ne.symm; assumption) | omega | (simp only []; omega) | (simp; done) | (simp; omega)))), (by ((repeat' (first | (with_reducible assumption) | (with_reducible apply At.drew) | (with_reducible apply At.drewN) | (with_reducible refine At.newAt ?_; (simp; done)) | (with_reducible apply At.alloc) | (with_reducible apply At.set) | (with_reducible apply At.setOther))); all_goals (first | assumption | (apply Ne.symm; assumption) | omega | (simp only []; omega) | (simp; done) | (simp; omega)))), At.to (At.newAt (by simp)) (copy_start m (by simp)), (by ((repeat' (first | (with_reducible assumption) | (with_reducible exact Fr.refl _ _) | (with_reducible refine Fr.drew ?_) | (with_reducible refine Fr.drewN ?_ _) | (with_reducible refine Fr.alloc ?_ _) | (with_reducible refine Fr.setCell ?_ ?_ _))); all_goals (first | (left; simp only [List.mem_cons, true_or, or_true]; done) | (left; simp only [List.mem_cons, List.mem_append, true_or, or_true]; done) | (right; simp only []; omega) | (right; simp; done) | (right; simp; omega) | (left; simp; done))))⟩
        case round =>
          obtain ⟨k2, hk2, rfl, h2, bE, bX, bW, F2⟩ := hrel
          have cE := bE.cell
          have cX_ := bX.cell
          have lE := bE.lt
          have lX_ := bX.lt
          have gW := bW.frozen
          by_cases hlt2 : k2 < m.w.length
          · have hcell := (bW.cell k2).trans (copy_at m k2 hlt2)
            have HP2 := hid (show m.peek (k2 : Int) = m.w.getD k2 0 by
              unfold Mem.peek Mem.has Mem.at
              rw [Int.toNat_natCast]
              simp only [Bool.and_eq_true, decide_eq_true_eq]
              rw [if_pos (by omega)])
            obtain ⟨v2, hv2⟩ : ∃ v2, m.w.getD k2 0 = v2 := ⟨_, rfl⟩
            have HV2 := hid hv2
            have i2' : (k2 : Int) < (m.w.length : Int) := by omega
            clear hv2
            go_wp2_with (go_at_call 24; (try simp only [IntWalk.i64_left]); refine (peek_any _ l m (by ((repeat' (first | (with_reducible assumption) | (with_reducible apply MemAt.drew) | (with_reducible apply MemAt.drewN) | (with_reducible apply MemAt.alloc) | (with_reducible apply MemAt.setN))); all_goals (first | assumption | (simp only []; assumption) | (refine nl _ ?_; first | omega | (simp only []; omega) | (simp; omega))))) _).mono ?_; rw [HP2.out, HV2.out]; rintro r w9 ⟨rfl, rfl⟩)
            go_roundw
            case rel =>
              refine ⟨k2 + 1, by omega, by simp, (by ((repeat' (first | (with_reducible assumption) | (with_reducible apply MemAt.drew) | (with_reducible apply MemAt.drewN) | (with_reducible apply MemAt.alloc) | (with_reducible apply MemAt.setN))); all_goals (first | assumption | (simp only []; assumption) | (refine nl _ ?_; first | omega | (simp only []; omega) | (simp; omega))))), (by ((repeat' (first | (with_reducible assumption) | (with_reducible apply At.drew) | (with_reducible apply At.drewN) | (with_reducible refine At.newAt ?_; (simp; done)) | (with_reducible apply At.alloc) | (with_reducible apply At.set) | (with_reducible apply At.setOther))); all_goals (first | assumption | (apply Ne.symm; assumption) | omega | (simp only []; omega) | (simp; done) | (simp; omega)))), (by ((repeat' (first | (with_reducible assumption) | (with_reducible apply At.drew) | (with_reducible apply At.drewN) | (with_reducible refine At.newAt ?_; (simp; done)) | (with_reducible apply At.alloc) | (with_reducible apply At.set) | (with_reducible apply At.setOther))); all_goals (first | assumption | (apply Ne.symm; assumption) | omega | (simp only []; omega) | (simp; done) | (simp; omega)))), ?_, (by ((repeat' (first | (with_reducible assumption) | (with_reducible exact Fr.refl _ _) | (with_reducible refine Fr.drew ?_) | (with_reducible refine Fr.drewN ?_ _) | (with_reducible refine Fr.alloc ?_ _) | (with_reducible refine Fr.setCell ?_ ?_ _))); all_goals (first | (left; simp only [List.mem_cons, true_or, or_true]; done) | (left; simp only [List.mem_cons, List.mem_append, true_or, or_true]; done) | (right; simp only []; omega) | (right; simp; done) | (right; simp; omega) | (left; simp; done))))⟩
              refine At.to (by ((repeat' (first | (with_reducible assumption) | (with_reducible apply At.drew) | (with_reducible apply At.drewN) | (with_reducible refine At.newAt ?_; (simp; done)) | (with_reducible apply At.alloc) | (with_reducible apply At.set) | (with_reducible apply At.setOther))); all_goals (first | assumption | (apply Ne.symm; assumption) | omega | (simp only []; omega) | (simp; done) | (simp; omega)))) ?_
              rw [← HV2.out]
              exact copy_set m k2 hlt2
            case measure => simp [intOf]; omega
          · have hk2' : k2 = m.w.length := by omega
            have bW' : At wr wo.heap.size 23 (m.w.map (Value.int .u64)).toArray := by have q := bW; rw [hk2', copy_all] at q; exact q
            have i2' : (m.w.length : Int) ≤ k2 := by omega
            have lW := bW.lt
            have gX_ := bX.frozen
            clear hk2' bW
            go_wp2
            obtain ⟨wq, rfl⟩ : ∃ wq : World, wq = wr := ⟨_, rfl⟩
            go_upto_region 15 with (fail)
            go_cut [97] (fun s97 wx => MemAt wx l m ∧ At wx wa.heap.size 30 (e.arr l) ∧ At wx w.heap.size 25 (YW x).arr ∧ At wx wo.heap.size 23 (m.w.map (Value.int .u64)).toArray ∧ Fr [] w wx)
            case first =>
              go_region_with (go_at_call 25; refine (valueOf_any _ _).mono ?_; rintro r w9 ⟨rfl, rfl⟩)
              all_goals
                go_wp2_with fail
                go_meet
                refine ⟨(by ((repeat' (first | (with_reducible assumption) | (with_reducible apply MemAt.drew) | (with_reducible apply MemAt.drewN) | (with_reducible apply MemAt.alloc) | (with_reducible apply MemAt.setN))); all_goals (first | assumption | (simp only []; assumption) | (refine nl _ ?_; first | omega | (simp only []; omega) | (simp; omega))))), (by ((repeat' (first | (with_reducible assumption) | (with_reducible apply At.drew) | (with_reducible apply At.drewN) | (with_reducible refine At.newAt ?_; (simp; done)) | (with_reducible apply At.alloc) | (with_reducible apply At.set) | (with_reducible apply At.setOther))); all_goals (first | assumption | (apply Ne.symm; assumption) | omega | (simp only []; omega) | (simp; done) | (simp; omega)))), ?_, (by ((repeat' (first | (with_reducible assumption) | (with_reducible apply At.drew) | (with_reducible apply At.drewN) | (with_reducible refine At.newAt ?_; (simp; done)) | (with_reducible apply At.alloc) | (with_reducible apply At.set) | (with_reducible apply At.setOther))); all_goals (first | assumption | (apply Ne.symm; assumption) | omega | (simp only []; omega) | (simp; done) | (simp; omega)))), (by ((repeat' (first | (with_reducible assumption) | (with_reducible exact Fr.refl _ _) | (with_reducible refine Fr.drew ?_) | (with_reducible refine Fr.drewN ?_ _) | (with_reducible refine Fr.alloc ?_ _) | (with_reducible refine Fr.setCell ?_ ?_ _))); all_goals (first | (left; simp only [List.mem_cons, true_or, or_true]; done) | (left; simp only [List.mem_cons, List.mem_append, true_or, or_true]; done) | (right; simp only []; omega) | (right; simp; done) | (right; simp; omega) | (left; simp; done))))⟩
                refine At.to (by ((repeat' (first | (with_reducible assumption) | (with_reducible apply At.drew) | (with_reducible apply At.drewN) | (with_reducible refine At.newAt ?_; (simp; done)) | (with_reducible apply At.alloc) | (with_reducible apply At.set) | (with_reducible apply At.setOther))); all_goals (first | assumption | (apply Ne.symm; assumption) | omega | (simp only []; omega) | (simp; done) | (simp; omega)))) ?_
                simp [YW, IntWalk.i64_left]
            case rest =>
              obtain ⟨h2, bE, bX, bW', F2⟩ := hcut
              have cE := bE.cell
              have cX_ : ∀ i, _ = (YW x).arr[i]? := bX.cell
              have lE := bE.lt
              have lX_ := bX.lt
              have lW := bW'.lt
              go_wp2_with fail
              refine (doIt_forged e _ l m (by ((repeat' (first | (with_reducible assumption) | (with_reducible apply MemAt.drew) | (with_reducible apply MemAt.drewN) | (with_reducible apply MemAt.alloc) | (with_reducible apply MemAt.setN))); all_goals (first | assumption | (simp only []; assumption) | (refine nl _ ?_; first | omega | (simp only []; omega) | (simp; omega))))) x own HFL.out (YW x) rfl).mono ?_
              rintro r w3 ⟨d, m', rfl, hd1, hd2, hw, h3, f3⟩
              have bE := At.fr (b := wa.heap.size) (t := 30) (vs := e.arr l) (by ((repeat' (first | (with_reducible assumption) | (with_reducible apply At.drew) | (with_reducible apply At.drewN) | (with_reducible refine At.newAt ?_; (simp; done)) | (with_reducible apply At.alloc) | (with_reducible apply At.set) | (with_reducible apply At.setOther))); all_goals (first | assumption | (apply Ne.symm; assumption) | omega | (simp only []; omega) | (simp; done) | (simp; omega)))) f3 nE
              have bW := At.fr (b := wo.heap.size) (t := 23) (vs := (m.w.map (Value.int .u64)).toArray) (by ((repeat' (first | (with_reducible assumption) | (with_reducible apply At.drew) | (with_reducible apply At.drewN) | (with_reducible refine At.newAt ?_; (simp; done)) | (with_reducible apply At.alloc) | (with_reducible apply At.set) | (with_reducible apply At.setOther))); all_goals (first | assumption | (apply Ne.symm; assumption) | omega | (simp only []; omega) | (simp; done) | (simp; omega)))) f3 (nl _ (by omega))
              have F3 := Fr.trans' (S := []) (a := w) (by ((repeat' (first | (with_reducible assumption) | (with_reducible exact Fr.refl _ _) | (with_reducible refine Fr.drew ?_) | (with_reducible refine Fr.drewN ?_ _) | (with_reducible refine Fr.alloc ?_ _) | (with_reducible refine Fr.setCell ?_ ?_ _))); all_goals (first | (left; simp only [List.mem_cons, true_or, or_true]; done) | (left; simp only [List.mem_cons, List.mem_append, true_or, or_true]; done) | (right; simp only []; omega) | (right; simp; done) | (right; simp; omega) | (left; simp; done)))) f3 HLN.out
              have lE := bE.lt
              have lW := bW.lt
              have HW := hid hw
              have dd1 : (d.e == 3) = true := by simpa using hd1
              have dd2 : (d.value == 0) = true := by simpa using hd2
              clear f3 hw hd1 hd2
              go_wp2
              go_loopw [14] (fun i wr => ∃ k3 : Nat, k3 ≤ m.w.length ∧ i = .int .i64 (k3 : Int) ∧ LookRel wa w wr e l m m' wo.heap.size w3.heap.size d) (fun i _ => m.w.length - (intOf i).toNat)
              case atStart => exact ⟨0, by omega, rfl, (by ((repeat' (first | (with_reducible assumption) | (with_reducible apply MemAt.drew) | (with_reducible apply MemAt.drewN) | (with_reducible apply MemAt.alloc) | (with_reducible apply MemAt.setN))); all_goals (first | assumption | (simp only []; assumption) | (refine nl _ ?_; first | omega | (simp only []; omega) | (simp; omega))))), (by ((repeat' (first | (with_reducible assumption) | (with_reducible apply At.drew) | (with_reducible apply At.drewN) | (with_reducible refine At.newAt ?_; (simp; done)) | (with_reducible apply At.alloc) | (with_reducible apply At.set) | (with_reducible apply At.setOther))); all_goals (first | assumption | (apply Ne.symm; assumption) | omega | (simp only []; omega) | (simp; done) | (simp; omega)))), (by ((repeat' (first | (with_reducible assumption) | (with_reducible apply At.drew) | (with_reducible apply At.drewN) | (with_reducible refine At.newAt ?_; (simp; done)) | (with_reducible apply At.alloc) | (with_reducible apply At.set) | (with_reducible apply At.setOther))); all_goals (first | assumption | (apply Ne.symm; assumption) | omega | (simp only []; omega) | (simp; done) | (simp; omega)))), (by ((repeat' (first | (with_reducible assumption) | (with_reducible apply At.drew) | (with_reducible apply At.drewN) | (with_reducible refine At.newAt ?_; (simp; done)) | (with_reducible apply At.alloc) | (with_reducible apply At.set) | (with_reducible apply At.setOther))); all_goals (first | assumption | (apply Ne.symm; assumption) | omega | (simp only []; omega) | (simp; done) | (simp; omega)))), (by ((repeat' (first | (with_reducible assumption) | (with_reducible exact Fr.refl _ _) | (with_reducible refine Fr.drew ?_) | (with_reducible refine Fr.drewN ?_ _) | (with_reducible refine Fr.alloc ?_ _) | (with_reducible refine Fr.setCell ?_ ?_ _))); all_goals (first | (left; simp only [List.mem_cons, true_or, or_true]; done) | (left; simp only [List.mem_cons, List.mem_append, true_or, or_true]; done) | (right; simp only []; omega) | (right; simp; done) | (right; simp; omega) | (left; simp; done))))⟩
              case round =>
                obtain ⟨k3, hk3, rfl, h4, bE, bW, bD, F4⟩ := hrel
                have cE := bE.cell
                have cD := bD.cell
                have lE := bE.lt
                by_cases hlt3 : k3 < m.w.length
                · obtain ⟨v3, hv3⟩ : ∃ v3, m.w.getD k3 0 = v3 := ⟨_, rfl⟩
                  have hcell := cell_u64 bW k3 hlt3
                  rw [hv3] at hcell
                  have HP3 := hid (show m'.peek (k3 : Int) = v3 by
                    unfold Mem.peek Mem.has Mem.at
                    rw [HW.out, Int.toNat_natCast, hv3]
                    simp only [Bool.and_eq_true, decide_eq_true_eq]
                    rw [if_pos (by omega)])
                  have i3 : (k3 : Int) < (m.w.length : Int) := by omega
                  clear hv3
                  go_wp2_with fail
                  go_region_held3 (fun w' => (∀ i, w'.cell? ⟨wa.heap.size, i, none⟩ = (e.arr l)[i]?) ∧ w'.cell? ⟨wo.heap.size, k3, none⟩ = some (.int .u64 v3)) (((try dsimp only); (repeat' apply And.intro); all_goals (first | with_reducible exact b1.cell | with_reducible exact p1 | with_reducible assumption | (refine At.cell (t := 30) ?_; ((repeat' (first | (with_reducible assumption) | (with_reducible apply At.drew) | (with_reducible apply At.drewN) | (with_reducible refine At.newAt ?_; (simp; done)) | (with_reducible apply At.alloc) | (with_reducible apply At.set) | (with_reducible apply At.setOther))); all_goals (first | assumption | (apply Ne.symm; assumption) | omega | (simp only []; omega) | (simp; done) | (simp; omega)))) | (refine At.cells (by ((repeat' (first | (with_reducible assumption) | (with_reducible apply At.drew) | (with_reducible apply At.drewN) | (with_reducible refine At.newAt ?_; (simp; done)) | (with_reducible apply At.alloc) | (with_reducible apply At.set) | (with_reducible apply At.setOther))); all_goals (first | assumption | (apply Ne.symm; assumption) | omega | (simp only []; omega) | (simp; done) | (simp; omega)))) ?_; (first | rfl | (simp; done))) | (rw [World.cell?_setCell_other _ _ _ _ (by simp)]; assumption) | (refine (At.cell (by ((repeat' (first | (with_reducible assumption) | (with_reducible apply At.drew) | (with_reducible apply At.drewN) | (with_reducible refine At.newAt ?_; (simp; done)) | (with_reducible apply At.alloc) | (with_reducible apply At.set) | (with_reducible apply At.setOther))); all_goals (first | assumption | (apply Ne.symm; assumption) | omega | (simp only []; omega) | (simp; done) | (simp; omega)))) _).trans ?_; (simp; done)) | (go_keep; done)))) (first | (go_at_call 24; (try simp only [IntWalk.i64_left]); refine (peek_any _ l m' (by ((repeat' (first | (with_reducible assumption) | (with_reducible apply MemAt.drew) | (with_reducible apply MemAt.drewN) | (with_reducible apply MemAt.alloc) | (with_reducible apply MemAt.setN))); all_goals (first | assumption | (simp only []; assumption) | (refine nl _ ?_; first | omega | (simp only []; omega) | (simp; omega))))) _).mono ?_; rw [HP3.out]; rintro r w9 ⟨rfl, rfl⟩))
                  all_goals
                    go_wp2
                    go_roundw
                    case rel => exact ⟨k3 + 1, by omega, by simp, (by ((repeat' (first | (with_reducible assumption) | (with_reducible apply MemAt.drew) | (with_reducible apply MemAt.drewN) | (with_reducible apply MemAt.alloc) | (with_reducible apply MemAt.setN))); all_goals (first | assumption | (simp only []; assumption) | (refine nl _ ?_; first | omega | (simp only []; omega) | (simp; omega))))), (by ((repeat' (first | (with_reducible assumption) | (with_reducible apply At.drew) | (with_reducible apply At.drewN) | (with_reducible refine At.newAt ?_; (simp; done)) | (with_reducible apply At.alloc) | (with_reducible apply At.set) | (with_reducible apply At.setOther))); all_goals (first | assumption | (apply Ne.symm; assumption) | omega | (simp only []; omega) | (simp; done) | (simp; omega)))), (by ((repeat' (first | (with_reducible assumption) | (with_reducible apply At.drew) | (with_reducible apply At.drewN) | (with_reducible refine At.newAt ?_; (simp; done)) | (with_reducible apply At.alloc) | (with_reducible apply At.set) | (with_reducible apply At.setOther))); all_goals (first | assumption | (apply Ne.symm; assumption) | omega | (simp only []; omega) | (simp; done) | (simp; omega)))), (by ((repeat' (first | (with_reducible assumption) | (with_reducible apply At.drew) | (with_reducible apply At.drewN) | (with_reducible refine At.newAt ?_; (simp; done)) | (with_reducible apply At.alloc) | (with_reducible apply At.set) | (with_reducible apply At.setOther))); all_goals (first | assumption | (apply Ne.symm; assumption) | omega | (simp only []; omega) | (simp; done) | (simp; omega)))), (by ((repeat' (first | (with_reducible assumption) | (with_reducible exact Fr.refl _ _) | (with_reducible refine Fr.drew ?_) | (with_reducible refine Fr.drewN ?_ _) | (with_reducible refine Fr.alloc ?_ _) | (with_reducible refine Fr.setCell ?_ ?_ _))); all_goals (first | (left; simp only [List.mem_cons, true_or, or_true]; done) | (left; simp only [List.mem_cons, List.mem_append, true_or, or_true]; done) | (right; simp only []; omega) | (right; simp; done) | (right; simp; omega) | (left; simp; done))))⟩
                    case measure => simp [intOf]; omega
                · have i3 : (m.w.length : Int) ≤ k3 := by omega
                  go_wp2
                  go_ret
                  exact ⟨rfl, by ((repeat' (first | (with_reducible assumption) | (with_reducible exact Fr.refl _ _) | (with_reducible refine Fr.drew ?_) | (with_reducible refine Fr.drewN ?_ _) | (with_reducible refine Fr.alloc ?_ _) | (with_reducible refine Fr.setCell ?_ ?_ _))); all_goals (first | (left; simp only [List.mem_cons, true_or, or_true]; done) | (left; simp only [List.mem_cons, List.mem_append, true_or, or_true]; done) | (right; simp only []; omega) | (right; simp; done) | (right; simp; omega) | (left; simp; done)))⟩
end Go.Proofs.Ytkgbifagledcaaa.FL
