/-
  The laws of layer 13 over the plain functions: valid lists, inverse, moves. No Go in sight.
-/
import Derived.Test.YtaccjnekonmkoaaPlainB
namespace Go.Proofs.Ytaccjnekonmkoaa
open Go Go.RowKit

/-- A list without repeats inside another that is no longer: then the other has no repeats, and is inside the first. -/
theorem nodup_of_sub : ∀ (a b : List Int), a.Nodup → (∀ x ∈ a, x ∈ b) → b.length ≤ a.length → b.Nodup ∧ ∀ x ∈ b, x ∈ a
  | [], b, _, _, hl => by
    have : b = [] := List.length_eq_zero_iff.1 (Nat.le_zero.1 hl)
    subst this
    exact ⟨List.nodup_nil, fun x hx => hx⟩
  | x :: a, b, hn, hs, hl => by
    obtain ⟨hx, hn⟩ := List.nodup_cons.1 hn
    have hxb : x ∈ b := hs x (List.mem_cons_self ..)
    have hp := List.perm_cons_erase hxb
    have hlen := List.length_erase_of_mem hxb
    have hpos : 0 < b.length := List.length_pos_of_mem hxb
    simp only [List.length_cons] at hl
    obtain ⟨h1, h2⟩ := nodup_of_sub a (b.erase x) hn (fun y hy => (List.mem_erase_of_ne (by rintro rfl; exact hx hy)).2 (hs y (List.mem_cons_of_mem _ hy))) (by omega)
    refine ⟨hp.nodup_iff.2 (List.nodup_cons.2 ⟨fun h => hx (h2 x h), h1⟩), fun y hy => ?_⟩
    rcases List.mem_cons.1 (hp.mem_iff.1 hy) with h | h
    · exact h ▸ List.mem_cons_self ..
    · exact List.mem_cons_of_mem _ (h2 y h)
theorem new_nodup : new.Nodup := by decide +kernel
theorem mem_new {c : Int} (h0 : 0 ≤ c) (h1 : c < 256) : c ∈ new := vl_new.all c h0 h1
theorem vld_iff (l : List Int) (hl : l.length = 256) : vld l = true ↔ ∀ c, 0 ≤ c → c < 256 → c ∈ l := by
  have ht : l.take 256 = l := List.take_of_length_le (by omega)
  rw [vld, beq_iff_eq]
  constructor
  · intro h c h0 h1
    obtain ⟨i, rfl⟩ := Int.eq_ofNat_of_zero_le h0
    have hi : i < 256 := by omega
    have e : (seenUp l 256)[i]? = ones[i]? := by rw [h]
    simp only [seenUp, ones, one, List.getElem?_map, List.getElem?_range hi, Option.map_some, if_pos hi, Option.some.injEq, ht] at e
    by_cases hc : l.contains (i : Int) = true
    · simpa using hc
    · rw [if_neg hc] at e
      exact absurd e (by decide)
  · intro h
    unfold seenUp ones one
    apply List.map_congr_left
    intro i hi
    have hi : i < 256 := List.mem_range.1 hi
    have := h i (by omega) (by omega)
    rw [ht, if_pos (by simpa using this), if_pos hi]
theorem vl_iff {l : List Int} (hl : l.length = 256) (hb : Bytes l) : vld l = true ↔ Vl l := by
  rw [vld_iff l hl]
  exact ⟨fun h => ⟨hl, hb, h⟩, fun h => h.all⟩
theorem Vl.nodup {l : List Int} (h : Vl l) : l.Nodup :=
  (nodup_of_sub new l new_nodup (fun x hx => h.all x (vl_new.bytes x hx).1 (vl_new.bytes x hx).2) (by rw [h.len, len_new]; exact Nat.le_refl _)).1
theorem vl_of_nodup {l : List Int} (hl : l.length = 256) (hb : Bytes l) (h : l.Nodup) : Vl l :=
  ⟨hl, hb, fun c h0 h1 => (nodup_of_sub l new h (fun x hx => mem_new (hb x hx).1 (hb x hx).2) (by rw [hl, len_new]; exact Nat.le_refl _)).2 c (mem_new h0 h1)⟩
/-- The two ways of asking whether a list is valid. -/
theorem vld_dis {l : List Int} (hl : l.length = 256) (hb : Bytes l) : vld l = dis l := by
  rw [Bool.eq_iff_iff, vl_iff hl hb, dis, decide_eq_true_iff]
  exact ⟨Vl.nodup, vl_of_nodup hl hb⟩

/-! ### Forth and Back undo each other -/
theorem takeC_pos {l : List Int} (h : Vl l) {c : Int} (h0 : 0 ≤ c) (h1 : c < 256) : takeC l (pos l c) = c := by
  rw [takeC, if_pos (pos_range h h0 h1), pos_get h h0 h1]
theorem back_plc : ∀ (b l : List Int), Vl l → Bytes b → bck l (plc l b) = b
  | [], _, _, _ => rfl
  | c :: b, l, h, hb => by
    have hc := hb c (List.mem_cons_self ..)
    rw [plc, bck, takeC_pos h hc.1 hc.2, show takeL l (pos l c) = putL l c from rfl, back_plc b _ (h.putL c) (fun x hx => hb x (List.mem_cons_of_mem _ hx))]
theorem back_forth {b : List Int} (hb : Bytes b) : back (forth b) = b := back_plc b new vl_new hb
theorem findIdx_at {l : List Int} (h : l.Nodup) (k : Nat) (hk : k < l.length) : l.findIdx (· == l[k]) = k := by
  refine (List.findIdx_eq hk).2 ⟨by simp, fun j hj => ?_⟩
  have := (List.pairwise_iff_getElem.1 h) j k (by omega) hk hj
  simpa using this
theorem pos_takeC {l : List Int} (h : Vl l) {p : Int} (h0 : 0 ≤ p) (h1 : p < 256) : pos l (takeC l p) = p := by
  have hk : p.toNat < l.length := by rw [h.len]; omega
  rw [takeC, if_pos ⟨h0, h1⟩, gi_eq l _ hk, pos, findIdx_at h.nodup _ hk, if_pos hk]
  omega
theorem plc_back : ∀ (b l : List Int), Vl l → Bytes b → plc l (bck l b) = b
  | [], _, _, _ => rfl
  | p :: b, l, h, hb => by
    have hp := hb p (List.mem_cons_self ..)
    have e := pos_takeC h hp.1 hp.2
    rw [bck, plc, putL, e, plc_back b _ (h.takeL p) (fun x hx => hb x (List.mem_cons_of_mem _ hx))]
theorem forth_back {b : List Int} (hb : Bytes b) : forth (back b) = b := plc_back b new vl_new hb
theorem bytes_plc : ∀ (b l : List Int), Vl l → Bytes b → Bytes (plc l b)
  | [], _, _, _ => fun x hx => absurd hx (by simp [plc])
  | c :: b, l, h, hb => by
    intro x hx
    rcases List.mem_cons.1 hx with rfl | hx
    · have hc := hb c (List.mem_cons_self ..)
      exact pos_range h hc.1 hc.2
    · exact bytes_plc b _ (h.putL c) (fun x hx => hb x (List.mem_cons_of_mem _ hx)) x hx
theorem takeC_range {l : List Int} (h : Vl l) (p : Int) : 0 ≤ takeC l p ∧ takeC l p < 256 := by
  unfold takeC
  split
  · exact h.bytes.gi _ (by rw [h.len]; omega)
  · omega
theorem bytes_bck : ∀ (b l : List Int), Vl l → Bytes (bck l b)
  | [], _, _ => fun x hx => absurd hx (by simp [bck])
  | c :: b, l, h => by
    intro x hx
    rcases List.mem_cons.1 hx with rfl | hx
    · exact takeC_range h c
    · exact bytes_bck b _ (h.takeL c) x hx
theorem bytes_forth {b : List Int} (hb : Bytes b) : Bytes (forth b) := bytes_plc b new vl_new hb
theorem bytes_back (b : List Int) : Bytes (back b) := bytes_bck b new vl_new

/-! ### Moves -/
theorem gi_putL_zero {l : List Int} (h : Vl l) {c : Int} (h0 : 0 ≤ c) (h1 : c < 256) : gi (putL l c) 0 = c := by
  have hp := pos_range h h0 h1
  rw [putL, takeL, if_pos hp, front, pos_get h h0 h1]
  rfl
theorem pos_zero {l : List Int} (h : Vl l) {c : Int} (h0 : 0 ≤ c) (h1 : c < 256) : pos l c = 0 ↔ gi l 0 = c := by
  constructor
  · intro e
    have := pos_get h h0 h1
    rwa [e] at this
  · intro e
    have h3 : takeC l 0 = c := by rw [takeC, if_pos ⟨Int.le_refl _, by decide⟩]; exact e
    have := pos_takeC h (Int.le_refl 0) (by decide)
    rwa [h3] at this
/-- The byte before place i of a text, 0 at its start. -/
def last (b : List Int) (i : Nat) : Int := if i = 0 then 0 else gi b (i - 1)
theorem gi_plc : ∀ (b l : List Int) (i : Nat), i < b.length → gi (plc l b) i = pos (lst l (b.take i)) (gi b i)
  | [], _, _, h => absurd h (by simp)
  | c :: b, l, 0, _ => rfl
  | c :: b, l, i + 1, h => by
    have := gi_plc b (putL l c) i (by simpa using h)
    simpa [plc, gi, lst] using this
theorem head_lst {b : List Int} (hb : Bytes b) (i : Nat) (h : i ≤ b.length) : gi (lst new (b.take i)) 0 = last b i := by
  cases i with
  | zero => rfl
  | succ i =>
    have hi : i < b.length := h
    have := hb.gi i hi
    rw [take_snoc_gi b i hi, lst_snoc, gi_putL_zero (vl_lst _ _ vl_new) this.1 this.2, last, if_neg (by omega)]
    rfl
theorem forth_zero {b : List Int} (hb : Bytes b) (i : Nat) (h : i < b.length) : gi (forth b) i = 0 ↔ gi b i = last b i := by
  have := hb.gi i h
  rw [forth, gi_plc b new i h, pos_zero (vl_lst _ _ vl_new) this.1 this.2, head_lst hb i (Nat.le_of_lt h), eq_comm]
theorem gi_front (l : List Int) (k i : Nat) (hi : 1 ≤ i) : gi (front l k) i = gi l (if i ≤ k then i - 1 else i) := by
  obtain ⟨j, rfl⟩ : ∃ j, i = j + 1 := ⟨i - 1, by omega⟩
  simp only [front, gi, List.getD_eq_getElem?_getD, List.getElem?_cons_succ, List.getElem?_eraseIdx, Nat.add_sub_cancel]
  by_cases h : j < k
  · rw [if_pos h, if_pos (by omega)]
  · rw [if_neg h, if_neg (by omega)]
theorem gi_putL {l : List Int} (h : Vl l) {c : Int} (h0 : 0 ≤ c) (h1 : c < 256) (i : Nat) (hi : 1 ≤ i) : gi (putL l c) i = gi l (if i ≤ (pos l c).toNat then i - 1 else i) := by
  have hp := pos_range h h0 h1
  rw [putL, takeL, if_pos hp, gi_front _ _ _ hi]
theorem front_zero (l : List Int) (h : 0 < l.length) : front l 0 = l := by
  cases l with
  | nil => simp at h
  | cons a l => rfl
theorem takeL_zero {l : List Int} (h : l.length = 256) : takeL l 0 = l := by
  rw [takeL, if_pos ⟨Int.le_refl _, by decide⟩]
  exact front_zero l (by omega)
theorem takeC_zero (l : List Int) : takeC l 0 = gi l 0 := by rw [takeC, if_pos ⟨Int.le_refl _, by decide⟩]; rfl
theorem putL_twice {l : List Int} (h : Vl l) {c : Int} (h0 : 0 ≤ c) (h1 : c < 256) : putL (putL l c) c = putL l c ∧ pos (putL l c) c = 0 := by
  have hp := (pos_zero (h.putL c) h0 h1).2 (gi_putL_zero h h0 h1)
  exact ⟨by rw [putL, hp, takeL_zero (h.putL c).len], hp⟩
theorem putL_next {l : List Int} (h : Vl l) {a b : Int} (a0 : 0 ≤ a) (a1 : a < 256) (b0 : 0 ≤ b) (b1 : b < 256) (hn : a ≠ b) : gi (putL (putL l a) b) 1 = a := by
  have hx := h.putL a
  have hp := pos_range hx b0 b1
  have hz : pos (putL l a) b ≠ 0 := fun e => hn (by rw [← (pos_zero hx b0 b1).1 e, gi_putL_zero h a0 a1])
  rw [gi_putL hx b0 b1 1 (Nat.le_refl _), if_pos (by omega)]
  exact gi_putL_zero h a0 a1
end Go.Proofs.Ytaccjnekonmkoaa
