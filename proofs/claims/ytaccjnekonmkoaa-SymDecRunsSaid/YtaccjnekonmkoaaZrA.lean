/-
  The walks of zerorun's iterator 'down' and of zerorun.Digits.
-/
import Derived.Test.YtaccjnekonmkoaaRng
import Derived.Test.YtaccjnekonmkoaaMtfD
import Derived.Shelf.Abstract
import Derived.OwnWalkIn
import Derived.TacticsInMore
import Derived.LoopNIn
import Derived.LoopIn
import Derived.Maps.AppendAt
import Derived.Lib.Hide
namespace Go.Proofs.Ytaccjnekonmkoaa
open Go Go.RowKit Go.Shelf
attribute [local go_sem] Oper.semAt_some

/-- The digits of a number, least first. -/
def dgF : Nat → Nat → List Int
  | 0, _ => []
  | k + 1, n => if n = 0 then [] else ((n - 1 : Nat) : Int) % 2 :: dgF k ((n - 1) / 2)
def dg (n : Nat) : List Int := dgF n n
theorem dgF_stop (k : Nat) : dgF k 0 = [] := by cases k <;> simp [dgF]
theorem dgF_fuel : ∀ (k n : Nat), n ≤ k → ∀ j, n ≤ j → dgF k n = dgF j n
  | 0, n, hk, j, _ => by
    obtain rfl : n = 0 := by omega
    rw [dgF_stop, dgF_stop]
  | k + 1, n, hk, j, hj => by
    by_cases h0 : n = 0
    · subst h0; rw [dgF_stop, dgF_stop]
    · obtain ⟨j, rfl⟩ : ∃ i, j = i + 1 := ⟨j - 1, by omega⟩
      rw [dgF, dgF, if_neg h0, if_neg h0, dgF_fuel k ((n - 1) / 2) (by omega) j (by omega)]
theorem dg_zero : dg 0 = [] := rfl
theorem dg_step (n : Nat) (h : 0 < n) : dg n = ((n - 1 : Nat) : Int) % 2 :: dg ((n - 1) / 2) := by
  obtain ⟨k, rfl⟩ : ∃ k, n = k + 1 := ⟨n - 1, by omega⟩
  rw [dg, dgF, if_neg (by omega), dg, dgF_fuel k ((k + 1 - 1) / 2) (by omega) _ (Nat.le_refl _)]
theorem len_dg : ∀ (k n : Nat), n < 2 ^ k → (dg n).length ≤ k
  | 0, n, h => by
    obtain rfl : n = 0 := by simpa using h
    simp [dg_zero]
  | k + 1, n, h => by
    by_cases h0 : n = 0
    · subst h0; simp [dg_zero]
    · rw [dg_step n (by omega), List.length_cons]
      have := len_dg k ((n - 1) / 2) (by rw [Nat.pow_succ] at h; omega)
      omega

theorem and1_i64 (q : Nat) (hq : q < 2 ^ 32) : bits .and .i64 (q : Int) 1 = ((q % 2 : Nat) : Int) := by
  have h1 : (BitVec.ofInt 64 (q : Int)).toNat = q := by
    rw [BitVec.ofInt_natCast, BitVec.toNat_ofNat]; exact Nat.mod_eq_of_lt (by omega)
  have h2 : (BitVec.ofInt 64 (1 : Int)).toNat = 1 := rfl
  show IntKind.i64.wrap ((BitVec.ofInt 64 (q : Int) &&& BitVec.ofInt 64 (1 : Int)).toNat : Int) = _
  rw [BitVec.toNat_and, h1, h2, Nat.and_one_is_mod, IntWalk.i64_in _ (by omega)]
def leftAt (Bn : Nat) (W : World) : Nat := match W.cell? ⟨Bn, 0, none⟩ with | some (.int _ z) => z.toNat | _ => 0
theorem leftAt_eq {Bn : Nat} {W : World} {m : Nat} (h : W.cell? ⟨Bn, 0, none⟩ = some (.int .i64 m)) : leftAt Bn W = m := by
  rw [leftAt, h]; simp

set_option maxRecDepth 100000 in
set_option maxHeartbeats 1000000 in
/-- The iterator: for every body that keeps its cell. -/
theorem down1_in (F : Fence) (n : Nat) (h73 : F.fn 73) (hro : F.round = none) (hn : 1 ≤ n) (l Bn m : Nat) (hm : m < 2 ^ 31) (J : List Int → World → Prop) (W : World)
    (hc : W.cell? ⟨Bn, 0, none⟩ = some (.int .i64 m)) (hf : W.frozen? ⟨Bn, 0, none⟩ = false) (hJ : ∀ pre A v, J pre A → J pre (A.setCell ⟨Bn, 0, none⟩ v))
    (hY : ∀ pre x W1, J pre W1 → pre.length < (dg m).length → YieldAt F (n - 1) Try.prog l #[.int .i64 x] W1 fun e W' => e = .returned (.bool true) ∧ J (pre ++ [x]) W' ∧ W'.heap[Bn]? = W1.heap[Bn]?) (h0 : J [] W) :
    CallsIn F n Try.prog 73 #[.func (.yield l) #[] #[], .pointer (some ⟨Bn, 0, none⟩)] W fun e W' => (∃ v, e = .returned v) ∧ J (dg m) W' := by
  refine callsIn_of_wp Try.func73 rfl h73 ?_ hro
  simp only [Try.ntmps73, List.size_toArray, List.length_cons, List.length_nil, Nat.reduceAdd, Nat.reduceSub, Array.replicate_succ, Array.replicate_zero, List.push_toArray, List.append_toArray, List.nil_append, List.cons_append]
  gi_wp2
  gi_loopw [3] (fun _ wr => ∃ (pre : List Int) (k : Nat), k < 2 ^ 31 ∧ dg m = pre ++ dg k ∧ wr.cell? ⟨Bn, 0, none⟩ = some (.int .i64 k) ∧ wr.frozen? ⟨Bn, 0, none⟩ = false ∧ J pre wr) (fun _ wr => leftAt Bn wr)
  case atStart => exact ⟨[], m, hm, rfl, hc, hf, h0⟩
  case round =>
    obtain ⟨pre, k, hk, hx, hck, hfk, hJs⟩ := hrel
    clear hc hf h0 hm
    have hlft := leftAt_eq hck
    by_cases hk0 : k = 0
    · subst hk0
      gi_wp2
      go_end0
      exact ⟨⟨_, rfl⟩, by rw [hx, dg_zero, List.append_nil]; exact hJs⟩
    · have hst := dg_step k (by omega)
      have e1 : (k : Int) - 1 = ((k - 1 : Nat) : Int) := by omega
      have e2 : bits .and .i64 ((k : Int) - 1) 1 = ((k - 1 : Nat) : Int) % 2 := by rw [e1, and1_i64 (k - 1) (by omega)]; rfl
      clear e1
      obtain ⟨fn, tmps, assign, body, hy, hR⟩ := hY pre (((k - 1 : Nat) : Int) % 2) wr hJs (by rw [hx, hst]; simp)
      gi_wp2
      refine hR.mono ?_
      rintro e W3 ⟨rfl, hJ3, hk3⟩
      have hc3 : W3.cell? ⟨Bn, 0, none⟩ = some (.int .i64 k) := (World.cell?_of_block (w := wr) (a := ⟨Bn, 0, none⟩) hk3).trans hck
      have hf3 : W3.frozen? ⟨Bn, 0, none⟩ = false := (World.frozen?_of_block (w := wr) (a := ⟨Bn, 0, none⟩) hk3).trans hfk
      have e3 : ((k : Int) - 1) / 2 = (((k - 1) / 2 : Nat) : Int) := by omega
      have hc4 : (W3.setCell ⟨Bn, 0, none⟩ (.int .i64 (((k : Int) - 1) / 2))).cell? ⟨Bn, 0, none⟩ = some (.int .i64 (((k - 1) / 2 : Nat) : Int)) := by
        rw [e3]; exact World.cell?_setCell_same' _ _ _ (by rw [hc3]; rfl)
      have hf4 : (W3.setCell ⟨Bn, 0, none⟩ (.int .i64 (((k : Int) - 1) / 2))).frozen? ⟨Bn, 0, none⟩ = false := by rw [World.frozen?_setCell]; exact hf3
      have hl4 := leftAt_eq hc4
      clear e3
      have HC4 := Lib.hid hc4
      have HF4 := Lib.hid hf4
      have HL4 := Lib.hid hl4
      clear hc4 hf4 hl4
      gi_wp2
      go_roundw
      case rel => exact ⟨pre ++ [((k - 1 : Nat) : Int) % 2], (k - 1) / 2, by omega, by rw [hx, hst]; simp, HC4.out, HF4.out, hJ _ _ _ hJ3⟩
      case measure => rw [HL4.out, hlft]; omega

set_option maxHeartbeats 1000000 in
/-- **zerorun.down**: the number is boxed; the function value captures the box. -/
theorem down_in (F : Fence) (n : Nat) (h68 : F.fn 68) (hro : F.round = none) (m : Int) (w : World) :
    CallsIn F n Try.prog 68 #[.int .i64 m] w fun e w' => e = .returned (.func (.func 73) #[] #[.pointer (some ⟨w.heap.size, 0, none⟩)]) ∧ w' = w.alloc (.cells #[.int .i64 m] 3) := by
  refine callsIn_of_wp Try.func68 rfl h68 ?_ hro
  simp only [Try.ntmps68, List.size_toArray, List.length_cons, List.length_nil, Nat.reduceAdd, Nat.reduceSub, Array.replicate_succ, Array.replicate_zero, List.push_toArray, List.append_toArray, List.nil_append, List.cons_append]
  gi_wp2
  go_ret
  exact ⟨rfl, rfl⟩
end Go.Proofs.Ytaccjnekonmkoaa
