/-
  The plain functions of layer 13 over texts: forth and back; valid lists; and the facts on them. No Go in sight.
-/
import Derived.Test.YtaccjnekonmkoaaMtfB
namespace Go.Proofs.Ytaccjnekonmkoaa
open Go Go.RowKit

/-- A valid list: 256 bytes, every byte among them. -/
structure Vl (l : List Int) : Prop where
  len : l.length = 256
  bytes : Bytes l
  all : ∀ c, 0 ≤ c → c < 256 → c ∈ l

theorem gi_eq (l : List Int) (k : Nat) (h : k < l.length) : gi l k = l[k] := by
  simp [gi, List.getD_eq_getElem?_getD, List.getElem?_eq_getElem h]
theorem gi_mem (l : List Int) (k : Nat) (h : k < l.length) : gi l k ∈ l := by rw [gi_eq l k h]; exact List.getElem_mem h
theorem Bytes.gi {l : List Int} (hb : Bytes l) (k : Nat) (h : k < l.length) : 0 ≤ gi l k ∧ Ytaccjnekonmkoaa.gi l k < 256 := hb _ (gi_mem l k h)
theorem new_get (k : Nat) (h : k < 256) : new[k]? = some (k : Int) := by
  simp only [new, newUp, List.getElem?_map, List.getElem?_range h, Option.map_some, if_pos h]
theorem vl_new : Vl new := by
  refine ⟨len_new, ?_, ?_⟩
  · intro x hx
    obtain ⟨k, hk, rfl⟩ := List.getElem_of_mem hx
    have hk' : k < 256 := by rw [len_new] at hk; exact hk
    have := new_get k hk'
    rw [List.getElem?_eq_getElem hk] at this
    simp only [Option.some.injEq] at this
    omega
  · intro c h0 h1
    obtain ⟨k, rfl⟩ := Int.eq_ofNat_of_zero_le h0
    exact List.mem_of_getElem? (new_get k (by omega))
theorem front_perm (l : List Int) (k : Nat) (h : k < l.length) : (front l k).Perm l := by
  rw [front, gi_eq l k h, List.eraseIdx_eq_take_drop_succ]
  have e : l.take k ++ l[k] :: l.drop (k + 1) = l := by rw [← List.drop_eq_getElem_cons h, List.take_append_drop]
  exact List.perm_middle.symm.trans (by rw [e])
theorem Vl.front {l : List Int} (h : Vl l) (k : Nat) (hk : k < 256) : Vl (front l k) := by
  have hp := front_perm l k (by rw [h.len]; exact hk)
  exact ⟨hp.length_eq.trans h.len, fun x hx => h.bytes x (hp.mem_iff.1 hx), fun c h0 h1 => hp.mem_iff.2 (h.all c h0 h1)⟩
theorem Vl.takeL {l : List Int} (h : Vl l) (p : Int) : Vl (takeL l p) := by
  unfold Ytaccjnekonmkoaa.takeL
  split
  · exact h.front _ (by omega)
  · exact h
theorem Vl.putL {l : List Int} (h : Vl l) (c : Int) : Vl (putL l c) := h.takeL _
theorem pos_range {l : List Int} (h : Vl l) {c : Int} (h0 : 0 ≤ c) (h1 : c < 256) : 0 ≤ pos l c ∧ pos l c < 256 := by
  have hf : l.findIdx (· == c) < l.length := List.findIdx_lt_length_of_exists ⟨c, h.all c h0 h1, by simp⟩
  rw [pos, if_pos hf]
  have := h.len
  omega
theorem pos_get {l : List Int} (h : Vl l) {c : Int} (h0 : 0 ≤ c) (h1 : c < 256) : gi l (pos l c).toNat = c := by
  have hf : l.findIdx (· == c) < l.length := List.findIdx_lt_length_of_exists ⟨c, h.all c h0 h1, by simp⟩
  rw [pos, if_pos hf, Int.toNat_natCast, gi_eq l _ hf]
  simpa using List.findIdx_getElem (w := hf)

/-- The list behind a text. -/
def lst (l b : List Int) : List Int := b.foldl putL l
/-- The positions of a text, from a list on. -/
def plc : List Int → List Int → List Int
  | _, [] => []
  | l, c :: b => pos l c :: plc (putL l c) b
/-- The list behind positions, and the bytes. -/
def lstB (l b : List Int) : List Int := b.foldl takeL l
def bck : List Int → List Int → List Int
  | _, [] => []
  | l, p :: b => takeC l p :: bck (takeL l p) b
def forth (b : List Int) : List Int := plc new b
def back (b : List Int) : List Int := bck new b

theorem lst_snoc (l b : List Int) (c : Int) : lst l (b ++ [c]) = putL (lst l b) c := by simp [lst]
theorem lstB_snoc (l b : List Int) (c : Int) : lstB l (b ++ [c]) = takeL (lstB l b) c := by simp [lstB]
theorem plc_snoc : ∀ (b l : List Int) (c : Int), plc l (b ++ [c]) = plc l b ++ [pos (lst l b) c]
  | [], _, _ => rfl
  | x :: b, l, c => by
    have := plc_snoc b (putL l x) c
    simp only [List.cons_append, plc, this]
    rfl
theorem bck_snoc : ∀ (b l : List Int) (c : Int), bck l (b ++ [c]) = bck l b ++ [takeC (lstB l b) c]
  | [], _, _ => rfl
  | x :: b, l, c => by
    have := bck_snoc b (takeL l x) c
    simp only [List.cons_append, bck, this]
    rfl
theorem len_plc : ∀ (b l : List Int), (plc l b).length = b.length
  | [], _ => rfl
  | _ :: b, _ => by simp [plc, len_plc b]
theorem len_bck : ∀ (b l : List Int), (bck l b).length = b.length
  | [], _ => rfl
  | _ :: b, _ => by simp [bck, len_bck b]
theorem vl_lst : ∀ (b l : List Int), Vl l → Vl (lst l b)
  | [], _, h => h
  | c :: b, _, h => vl_lst b _ (h.putL c)
theorem vl_lstB : ∀ (b l : List Int), Vl l → Vl (lstB l b)
  | [], _, h => h
  | c :: b, _, h => vl_lstB b _ (h.takeL c)
theorem take_snoc_gi (b : List Int) (k : Nat) (h : k < b.length) : b.take (k + 1) = b.take k ++ [gi b k] := by
  rw [List.take_succ_eq_append_getElem h, gi_eq b k h]
theorem vs_append (k : IntKind) (a b : List Int) : vs k (a ++ b) = vs k a ++ vs k b := by simp [vs]

end Go.Proofs.Ytaccjnekonmkoaa
