/-
  Part 4 of the proof.
-/
import Derived.Lib.BytesEntry
import Derived.Lib.Hide
import Derived.Test.YtkpbhdhkdonghaaGreatT03
set_option linter.all false
namespace Go.Proofs.YtkpbhdhkdonghaaGreat
open Go Go.RowKit
def Bytes (l : List Int) : Prop := ∀ x ∈ l, 0 ≤ x ∧ x < 256
theorem u8_inj (x c : Int) (hx : 0 ≤ x ∧ x < 256) (hc : 0 ≤ c ∧ c < 256) : (UInt8.ofNat x.toNat == c.toNat.toUInt8) = (x == c) := by
  rw [Bool.eq_iff_iff]
  simp only [beq_iff_eq]
  constructor
  · intro h
    have := congrArg UInt8.toNat h
    simp at this
    omega
  · rintro rfl; rfl
theorem indexByte_pos : ∀ (l : List Int) (c : Int), Bytes l → 0 ≤ c ∧ c < 256 → Lib.indexByte (Lib.bytesOf l) c.toNat.toUInt8 = pos l c
  | [], _, _, _ => rfl
  | x :: l, c, hb, hc => by
    have ih := indexByte_pos l c (fun y hy => hb y (by simp [hy])) hc
    have e := u8_inj x c (hb x (by simp)) hc
    simp only [Lib.bytesOf, List.map_cons, Lib.indexByte, e]
    simp only [Lib.bytesOf] at ih
    rw [ih]
    by_cases hxc : (x == c) = true
    · simp [pos, List.findIdx_cons, hxc]
    · have hf : (x == c) = false := by simpa using hxc
      simp only [pos, List.findIdx_cons, hf, cond_false, List.length_cons]
      split <;> split <;> simp_all <;> omega
set_option maxRecDepth 100000 in
set_option maxHeartbeats 400000 in
theorem indexByte_any (b o n c : Nat) (xs : List Int) (cv : Int) (w : World) (hx : xs.length = n) (hb : Bytes xs) (hcv : 0 ≤ cv ∧ cv < 256)
    (hc : ∀ i, i < n → w.cell? ⟨b, o + i, none⟩ = some (.int .u8 (xs.getD i 0))) :
    Calls Tryz.prog 258 #[.slice (some ⟨b, o, none⟩) n c, .int .u8 cv] w fun e w' => e = .returned (.int .i64 (pos xs cv)) ∧ w = w' := by
  rw [← indexByte_pos xs cv hb hcv]
  go_enter Tryz.func258, Tryz.ntmps258
  go_wp2
  rw [run_callFunc_extern Tryz.func280 (by kernel_rfl) (by kernel_rfl) (by kernel_rfl) (e := Extern.BytealgIndexByte.indexByte) (by kernel_rfl), Lib.run_indexByteSlice w b o n c xs hx hc cv]
  simp only [Result.andThen]
  rw [Oper.upon_value]
  go_wp2
  go_ret
  exact ⟨rfl, rfl⟩
theorem RowIs.bytes {w : World} {g : Nat} {l : List Int} {n : Nat} (h : RowIs w g (B l)) (hl : l.length = n) : ∀ i, i < n → w.cell? ⟨g, 0 + i, none⟩ = some (.int .u8 (l.getD i 0)) := by
  intro i hi
  rw [Nat.zero_add, h.cell, get_B l i (by omega)]
  rfl
end Go.Proofs.YtkpbhdhkdonghaaGreat

namespace Go.Proofs.YtkpbhdhkdonghaaGreat
open Go Go.RowKit
structure Vl (l : List Int) : Prop where
  len : l.length = 256
  bytes : Bytes l
  all : ∀ c, 0 ≤ c → c < 256 → c ∈ l
theorem gi_eq (l : List Int) (k : Nat) (h : k < l.length) : gi l k = l[k] := by
  simp [gi, List.getD_eq_getElem?_getD, List.getElem?_eq_getElem h]
theorem gi_mem (l : List Int) (k : Nat) (h : k < l.length) : gi l k ∈ l := by rw [gi_eq l k h]; exact List.getElem_mem h
theorem Bytes.gi {l : List Int} (hb : Bytes l) (k : Nat) (h : k < l.length) : 0 ≤ gi l k ∧ YtkpbhdhkdonghaaGreat.gi l k < 256 := hb _ (gi_mem l k h)
theorem front_perm (l : List Int) (k : Nat) (h : k < l.length) : (front l k).Perm l := by
  rw [front, gi_eq l k h, List.eraseIdx_eq_take_drop_succ]
  have e : l.take k ++ l[k] :: l.drop (k + 1) = l := by rw [← List.drop_eq_getElem_cons h, List.take_append_drop]
  exact List.perm_middle.symm.trans (by rw [e])
theorem Vl.front {l : List Int} (h : Vl l) (k : Nat) (hk : k < 256) : Vl (front l k) := by
  have hp := front_perm l k (by rw [h.len]; exact hk)
  exact ⟨hp.length_eq.trans h.len, fun x hx => h.bytes x (hp.mem_iff.1 hx), fun c h0 h1 => hp.mem_iff.2 (h.all c h0 h1)⟩
theorem Vl.takeL {l : List Int} (h : Vl l) (p : Int) : Vl (takeL l p) := by
  unfold YtkpbhdhkdonghaaGreat.takeL
  split
  · exact h.front _ (by omega)
  · exact h
def bck : List Int → List Int → List Int
  | _, [] => []
  | l, p :: b => takeC l p :: bck (takeL l p) b
def back (b : List Int) : List Int := bck new b
theorem take_snoc_gi (b : List Int) (k : Nat) (h : k < b.length) : b.take (k + 1) = b.take k ++ [gi b k] := by
  rw [List.take_succ_eq_append_getElem h, gi_eq b k h]
end Go.Proofs.YtkpbhdhkdonghaaGreat

namespace Go.Proofs.YtkpbhdhkdonghaaGreat
open Go Go.RowKit
def last (b : List Int) (i : Nat) : Int := if i = 0 then 0 else gi b (i - 1)
end Go.Proofs.YtkpbhdhkdonghaaGreat
