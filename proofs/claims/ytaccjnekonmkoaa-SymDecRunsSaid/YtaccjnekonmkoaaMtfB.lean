/-
  The walks of bytes.IndexByte over a row of bytes, of mtf.Put and of the reference's Put.
-/
import Derived.Test.YtaccjnekonmkoaaMtfA
import Derived.Lib.BytesEntry
import Derived.Lib.Hide
namespace Go.Proofs.Ytaccjnekonmkoaa
open Go Go.RowKit

/-- A list of bytes. -/
def Bytes (l : List Int) : Prop := ∀ x ∈ l, 0 ≤ x ∧ x < 256

theorem u8_inj (x c : Int) (hx : 0 ≤ x ∧ x < 256) (hc : 0 ≤ c ∧ c < 256) : (UInt8.ofNat x.toNat == c.toNat.toUInt8) = (x == c) := by
  rw [Bool.eq_iff_iff]
  simp only [beq_iff_eq]
  constructor
  · intro h
    have := congrArg UInt8.toNat h
    simp at this
    omega
  · rintro rfl; rfl
theorem indexByte_pos : ∀ (l : List Int) (c : Int), Bytes l → 0 ≤ c ∧ c < 256 → Lib.indexByte (Lib.bytesOf l) c.toNat.toUInt8 = pos l c
  | [], _, _, _ => rfl
  | x :: l, c, hb, hc => by
    have ih := indexByte_pos l c (fun y hy => hb y (by simp [hy])) hc
    have e := u8_inj x c (hb x (by simp)) hc
    simp only [Lib.bytesOf, List.map_cons, Lib.indexByte, e]
    simp only [Lib.bytesOf] at ih
    rw [ih]
    by_cases hxc : (x == c) = true
    · simp [pos, List.findIdx_cons, hxc]
    · have hf : (x == c) = false := by simpa using hxc
      simp only [pos, List.findIdx_cons, hf, cond_false, List.length_cons]
      split <;> split <;> simp_all <;> omega

set_option maxRecDepth 100000 in
set_option maxHeartbeats 400000 in
theorem indexByte_any (b o n c : Nat) (xs : List Int) (cv : Int) (w : World) (hx : xs.length = n) (hb : Bytes xs) (hcv : 0 ≤ cv ∧ cv < 256)
    (hc : ∀ i, i < n → w.cell? ⟨b, o + i, none⟩ = some (.int .u8 (xs.getD i 0))) :
    Calls Try.prog 66 #[.slice (some ⟨b, o, none⟩) n c, .int .u8 cv] w fun e w' => e = .returned (.int .i64 (pos xs cv)) ∧ w = w' := by
  rw [← indexByte_pos xs cv hb hcv]
  go_enter Try.func66, Try.ntmps66
  go_wp2
  rw [run_callFunc_extern Try.func72 (by kernel_rfl) (by kernel_rfl) (by kernel_rfl) (e := Extern.BytealgIndexByte.indexByte) (by kernel_rfl), Lib.run_indexByteSlice w b o n c xs hx hc cv]
  simp only [Result.andThen]
  rw [Oper.upon_value]
  go_wp2
  go_ret
  exact ⟨rfl, rfl⟩

theorem RowIs.bytes {w : World} {g : Nat} {l : List Int} {n : Nat} (h : RowIs w g (B l)) (hl : l.length = n) : ∀ i, i < n → w.cell? ⟨g, 0 + i, none⟩ = some (.int .u8 (l.getD i 0)) := by
  intro i hi
  rw [Nat.zero_add, h.cell, get_B l i (by omega)]
  rfl

set_option maxRecDepth 100000 in
set_option maxHeartbeats 400000 in
/-- **mtf.Put, at every list of 256 bytes and every byte.** -/
theorem put_any (l : List Int) (c : Int) (w : World) (hl : l.length = 256) (hb : Bytes l) (hc : 0 ≤ c ∧ c < 256) : Calls Try.prog 21 #[.agg (B l), .int .u8 c] w fun e w' => (e = .returned (.tuple #[.agg (B (putL l c)), .int .i64 (pos l c)])) ∧ Below w.heap.size w w' := by
  have Hl : Hid (l.length = 256) := hl
  have Hp : Hid ((putL l c).length = 256) := len_takeL l _ hl
  have Hc : Hid (0 ≤ c ∧ c < 256) := hc
  have Hb : Hid (Bytes l) := hb
  have Ht : Hid (takeL l (pos l c) = putL l c) := rfl
  clear hl hc hb
  go_enter Try.func21, Try.ntmps21
  have hm := Mem.nil w
  go_wp2_with (first
      | (refine wpList_box_m hm rfl rfl rfl ?_; intro w1 g1 hm1; clear hm)
      | (refine wpList_alloc_m hm1 rfl rfl zero23 ?_; intro w2 g2 hm2; clear hm1)
      | (refine wpList_run rfl (exec_slice_arr rfl Try.underlying23 sz5 rfl (off' := 0) (len := 256) (cap := 256) 0 256 (.inl ⟨rfl, rfl⟩) (.inl ⟨rfl, rfl⟩) (by omega) (by omega) (by omega) rfl rfl rfl) ?_)
      | (go_at_call 66; refine (indexByte_any g1 0 256 256 l c _ Hl.out Hb.out Hc.out ((hm2.get 1 rfl).bytes Hl.out)).mono ?_; rintro e w' ⟨rfl, rfl⟩)
      | (refine wpList_load_all rfl rfl rfl (hm2.get 1 rfl) (aggB l Hl.out) ?_)
      | (go_at_call 23; refine (take_any l (pos l c) _ Hl.out).mono ?_; rintro e w3 ⟨rfl, hb3⟩; rw [Ht.out]; have hm3 := hm2.call hb3)
      | (refine wpList_store_m 0 hm3 rfl rfl rfl rfl rfl (aggB _ Hp.out) (size_BB _ _ Hp.out len_zeros) (B_one _) ?_; intro w4 hm4; simp only [List.set] at hm4)
      | (refine wpList_load_all rfl rfl rfl (hm4.get 0 rfl) (aggB _ Hp.out) ?_)
      | (refine wpList_store_m 0 hm4 rfl rfl rfl rfl rfl (aggB _ Hp.out) rfl (B_one _) ?_; intro w5 hm5; simp only [List.set] at hm5))
  refine bodyPost_ret (results_agg2 rfl rfl (hm5.get 0 rfl) (aggB _ Hp.out)) rfl ⟨rfl, hm5.below⟩

/-- 'c is not among the first k'. -/
theorem pos_found (l : List Int) (c : Int) (k : Nat) (hk : k < l.length) (hn : ∀ j, j < k → gi l j ≠ c) (hc : gi l k = c) : pos l c = k := by
  have hf : l.findIdx (· == c) = k := by
    refine (List.findIdx_eq hk).2 ⟨by simpa [gi, List.getD_eq_getElem?_getD, List.getElem?_eq_getElem hk] using hc, ?_⟩
    intro j hj
    have := hn j hj
    simpa [gi, List.getD_eq_getElem?_getD, List.getElem?_eq_getElem (show j < l.length by omega)] using this
  rw [pos, hf, if_pos hk]
theorem pos_none (l : List Int) (c : Int) (hn : ∀ j, j < l.length → gi l j ≠ c) : pos l c = -1 := by
  have hf : ¬ l.findIdx (· == c) < l.length := by
    intro h
    have h1 := List.findIdx_getElem (w := h)
    have := hn _ h
    simp [gi, List.getD_eq_getElem?_getD, List.getElem?_eq_getElem h] at this
    simp at h1
    exact this h1
  rw [pos, if_neg hf]

set_option maxRecDepth 100000 in
set_option maxHeartbeats 400000 in
/-- The reference's Put, at every list of 256 bytes and every byte. -/
theorem rput_any (l : List Int) (c : Int) (w : World) (hl : l.length = 256) : Calls Try.prog 22 #[.agg (B l), .int .u8 c] w fun e w' => (e = .returned (.tuple #[.agg (B (putL l c)), .int .i64 (pos l c)])) ∧ Below w.heap.size w w' := by
  have Hl : Hid (l.length = 256) := hl
  have Hp : Hid ((putL l c).length = 256) := len_takeL l _ hl
  have Hg : ∀ i, i < 256 → Hid ((B l)[i]? = some (.int .u8 (gi l i))) := fun i hi => get_B l i (by omega)
  have Hf : ∀ k, k < 256 → (∀ j, j < k → gi l j ≠ c) → gi l k = c → Hid (pos l c = k) := fun k hk h1 h2 => pos_found l c k (by omega) h1 h2
  have Hn : (∀ j, j < 256 → gi l j ≠ c) → Hid (pos l c = -1) := fun h => pos_none l c (fun j hj => h j (by omega))
  clear hl
  have HF := Lib.hid Hf
  have HN := Lib.hid Hn
  have HG := Lib.hid Hg
  clear Hf Hn Hg
  go_enter Try.func22, Try.ntmps22
  have hm := Mem.nil w
  go_wp2_with (first
      | (refine wpList_box_m hm rfl rfl rfl ?_; intro w1 g1 hm1; clear hm)
      | (refine wpList_alloc_m hm1 rfl rfl zero23 ?_; intro w2 g2 hm2; clear hm1))
  go_loopw [6] (fun v wr => ∃ i : Nat, i ≤ 256 ∧ v = .int .i64 i ∧ Hid (∀ j, j < i → gi l j ≠ c) ∧ Mem w wr [(g2, B zeros), (g1, B l)]) (fun v _ => 256 - (intOf v).toNat)
  case atStart => exact ⟨0, by omega, rfl, fun j hj => absurd hj (by omega), hm2⟩
  case round =>
    obtain ⟨i, hi, rfl, hno, hmr⟩ := hrel
    clear hm2
    by_cases hlt : i < 256
    · have hg := (HG.out i hlt).out
      by_cases hc : gi l i = c
      · have e1 : (gi l i == c) = true := by simpa using hc
        have hpos := HF.out i hlt hno.out hc
        have HT : Hid (takeL l (i : Int) = putL l c) := by show takeL l i = takeL l (pos l c); rw [hpos.out]
        clear hc
        go_wp2_with (first
          | (refine wpList_loadcell rfl rfl rfl (hmr.get 1 rfl) one5 hg ?_)
          | (refine wpList_load_all rfl rfl rfl (hmr.get 1 rfl) (aggB l Hl.out) ?_)
          | (go_at_call 24; refine (rtake_any l (i : Int) _ Hl.out).mono ?_; rintro e w3 ⟨rfl, hb3⟩; rw [HT.out]; have hm3 := hmr.call hb3)
          | (refine wpList_alloc_m hm3 rfl rfl zero23 ?_; intro w4 g4 hm4)
          | (refine wpList_store_m 0 hm4 rfl rfl rfl rfl rfl (aggB _ Hp.out) (size_BB _ _ Hp.out len_zeros) (B_one _) ?_; intro w5 hm5; simp only [List.set] at hm5)
          | (refine wpList_load_all rfl rfl rfl (hm5.get 0 rfl) (aggB _ Hp.out) ?_)
          | (refine wpList_store_m 1 hm5 rfl rfl rfl rfl rfl (aggB _ Hp.out) (size_BB _ _ Hp.out len_zeros) (B_one _) ?_; intro w6 hm6; simp only [List.set] at hm6))
        rw [hpos.out]
        refine bodyPost_ret (results_agg2 rfl rfl (hm6.get 1 rfl) (aggB _ Hp.out)) rfl ⟨rfl, hm6.below⟩
      · have e1 : (gi l i == c) = false := by simpa using hc
        go_wp2_with (refine wpList_loadcell rfl rfl rfl (hmr.get 1 rfl) one5 hg ?_)
        go_roundw
        case rel => exact ⟨i + 1, by omega, by go_num, fun j hj => by
          by_cases hji : j = i
          · subst hji; exact hc
          · exact hno.out j (by omega), hmr⟩
        case measure => simp [intOf]; omega
    · obtain rfl : i = 256 := by omega
      have hpos := HN.out hno.out
      have HT : Hid (l = putL l c) := by show l = takeL l (pos l c); rw [hpos.out]; rfl
      go_wp2_with (first
          | (refine wpList_load_all rfl rfl rfl (hmr.get 1 rfl) (aggB l Hl.out) ?_)
          | (refine wpList_store_m 0 hmr rfl rfl rfl rfl rfl (aggB _ Hl.out) (size_BB _ _ Hl.out len_zeros) (B_one _) ?_; intro w6 hm6; simp only [List.set] at hm6))
      rw [hpos.out]
      refine bodyPost_ret (results_agg2 rfl rfl (hm6.get 0 rfl) (aggB _ Hl.out)) rfl ⟨by rw [← HT.out]; rfl, hm6.below⟩
end Go.Proofs.Ytaccjnekonmkoaa
