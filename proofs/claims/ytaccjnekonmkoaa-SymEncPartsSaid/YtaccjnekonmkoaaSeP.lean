/-
  The walk of winepresslaw15.SymEncParts.
-/
import Derived.Test.YtaccjnekonmkoaaSeM
import Derived.Test.YtaccjnekonmkoaaOrdT
import Derived.Test.YtaccjnekonmkoaaSlc
namespace Go.Proofs.Ytaccjnekonmkoaa
open Go Go.RowKit

theorem ego_append : ∀ (a b l : List Int) (r : Nat) (out : List Int), ego (a ++ b) l r out = ego b (ego a l r out).1 (ego a l r out).2.1 (ego a l r out).2.2
  | [], _, _, _, _ => rfl
  | c :: a, b, l, r, out => by
    rw [List.cons_append, ego, ego]
    by_cases h : pos l c = 0
    · rw [if_pos h, if_pos h]; exact ego_append a b _ _ _
    · rw [if_neg h, if_neg h]; exact ego_append a b _ _ _
/-- The state behind the first i bytes. -/
def stt (b : List Int) (i : Nat) : List Int × Nat × List Int := ego (b.take i) new 0 []
theorem stt_step (b : List Int) (i : Nat) (h : i < b.length) : stt b (i + 1) = ((ego [gi b i] (stt b i).1 (stt b i).2.1 []).1, (ego [gi b i] (stt b i).1 (stt b i).2.1 []).2.1, (stt b i).2.2 ++ (ego [gi b i] (stt b i).1 (stt b i).2.1 []).2.2) := by
  rw [stt, take_snoc_gi b i h, ego_append, ego_out]
  rfl
theorem stt_all (b : List Int) : stt b b.length = ego b new 0 [] := by rw [stt, List.take_length]
theorem stt_split (b : List Int) (k : Nat) : ego b new 0 [] = ((ego (b.drop k) (stt b k).1 (stt b k).2.1 []).1, (ego (b.drop k) (stt b k).1 (stt b k).2.1 []).2.1, (stt b k).2.2 ++ (ego (b.drop k) (stt b k).1 (stt b k).2.1 []).2.2) := by
  have h := ego_append (b.take k) (b.drop k) new 0 []
  rw [List.take_append_drop] at h
  rw [h, ego_out]
  rfl
theorem vl_stt (b : List Int) (k : Nat) : Vl (stt b k).1 := vl_ego _ _ _ _ vl_new
theorem run_stt (b : List Int) (k : Nat) : (stt b k).2.1 ≤ k := by
  have h := run_ego (b.take k) new 0 []
  rw [List.length_take] at h
  rw [stt]; omega
theorem len_stt (b : List Int) (k : Nat) : (stt b k).2.2.length ≤ k := by
  have h := len_ego2 (b.take k) new 0 []
  rw [List.length_take] at h
  simp only [List.length_nil] at h
  rw [stt]; omega
theorem bytes_seg {b : List Int} (h : Bytes b) (i k : Nat) : Bytes (seg b i k) := fun x hx => h x (List.mem_of_mem_take (List.mem_of_mem_drop hx))
theorem seg_take (b : List Int) (k : Nat) : seg b 0 k = b.take k := by rw [seg, List.drop_zero]
theorem seg_drop (b : List Int) (k : Nat) : seg b k b.length = b.drop k := by rw [seg, List.take_length]
/-- A literal slice, new. -/
theorem Own.newSl {w0 w : World} {rs : List (Nat × Array Value)} {ss : List Sl} (h : Own w0 w rs ss) (cs : Array Value) (e : TypeId) (hc : cs.size ≤ maxLen) : Own w0 (w.alloc (.cells cs e)) rs ((.slice (some ⟨w.heap.size, 0, none⟩) cs.size cs.size, e, cs.toList) :: ss) := by
  refine h.callSl ((Below.refl _ _).alloc (Nat.le_refl _) _) ?_
  refine ⟨by simp, .inr ⟨w.heap.size, cs.size, cs, by simp, Nat.le_refl _, heap_alloc_new w _, by simp, hc, by simp, by rw [Nat.mul_one]; exact List.take_of_length_le (by simp)⟩⟩
set_option maxRecDepth 100000 in
theorem sep_w1 (v : Value) (b : List Int) (at_ : Int) (w : World) (hv : In .u8 w v b) (h : (300 : Int) < b.length) : Calls Try.prog 13 #[v, .int .i64 at_] w fun e w' => e = .returned (.bool true) ∧ Below w.heap.size w w' := by
  obtain ⟨ad, cp, rfl, _⟩ := hv
  go_enter Try.func13, Try.ntmps13
  have hm := Own.nil w
  go_wp2_with (first
    | (go_at_call 45; have _t := hm; refine (wakes15 _).mono ?_; rintro e w2 ⟨rfl, hb2⟩; have hm2 := hm.call hb2; clear hm))
  go_ret
  exact ⟨rfl, hm2.below⟩
set_option maxRecDepth 100000 in
set_option maxHeartbeats 8000000 in
/-- The walk at a split point k that is in range. -/
theorem sep_in (v : Value) (b : List Int) (at_ : Int) (k : Nat) (w : World) (hbb : Bytes b) (hv : InC .u8 w v b) (h : ¬ (300 : Int) < b.length) (hk : k ≤ b.length) (hat : (if (b.length : Int) < (if at_ < 0 then 0 else at_) then (b.length : Int) else (if at_ < 0 then 0 else at_)) = k) : Calls Try.prog 13 #[v, .int .i64 at_] w fun e w' => e = .returned (.bool true) ∧ Below w.heap.size w w' := by
  have HI := Lib.hid hv
  obtain ⟨ad, cp, rfl, hcp, hc⟩ := hv
  have HC := Lib.hid hc
  have HBB := Lib.hid hbb
  have hkc : k ≤ cp := by omega
  have hsplit := stt_split b k
  have hvk := vl_stt b k
  have hrk := run_stt b k
  have hlk := len_stt b k
  have hv2 := vl_ego (b.drop k) (stt b k).1 (stt b k).2.1 [] hvk
  have hr2 := run_ego (b.drop k) (stt b k).1 (stt b k).2.1 []
  have hl2 := len_ego2 (b.drop k) (stt b k).1 (stt b k).2.1 []
  rw [List.length_drop] at hr2 hl2
  have CA : Hid (∀ wz, Below w.heap.size w wz → Calls Try.prog 55 #[.slice ad b.length cp] wz (RunPost wz (allO b))) := Lib.hid (fun wz hb => eall_any b _ wz hbb (HI.out.below hb).toIn (by omega))
  have C1 : Hid (∀ wz, Below w.heap.size w wz → Calls Try.prog 46 #[.agg (EV new 0), .slice (subAt ad cp 0) (k - 0) (cp - 0)] wz (StepPost wz (stt b k).1 (stt b k).2.1 (stt b k).2.2 0)) := Lib.hid (fun wz hb => by
    have hq := (HI.out.sub (Nat.zero_le k) hk).below hb
    have hlen := seg_len (l := b) (i := 0) hk
    have hh := estep_in new (seg b 0 k) 0 _ wz vl_new (bytes_seg hbb 0 k) hq.toIn (by omega) (by omega)
    rw [seg_take] at hh
    exact hh)
  have C2 : Hid (∀ wz, Below w.heap.size w wz → Calls Try.prog 46 #[.agg (EV (stt b k).1 (stt b k).2.1), .slice (subAt ad cp k) (b.length - k) (cp - k)] wz (StepPost wz (ego (b.drop k) (stt b k).1 (stt b k).2.1 []).1 (ego (b.drop k) (stt b k).1 (stt b k).2.1 []).2.1 (ego (b.drop k) (stt b k).1 (stt b k).2.1 []).2.2 0)) := Lib.hid (fun wz hb => by
    have hq := (HI.out.sub hk (Nat.le_refl b.length)).below hb
    have hlen := seg_len (l := b) (i := k) (Nat.le_refl b.length)
    have hh := estep_in (stt b k).1 (seg b k b.length) (stt b k).2.1 _ wz hvk (bytes_seg hbb k b.length) hq.toIn (by omega) (by omega)
    rw [seg_drop] at hh
    exact hh)
  have HALL : Hid (allO b = (stt b k).2.2 ++ (ego (b.drop k) (stt b k).1 (stt b k).2.1 []).2.2 ++ (dg (ego (b.drop k) (stt b k).1 (stt b k).2.1 []).2.1 ++ [257])) := by
    show _ = _
    rw [allO, hsplit]
  have HEND : Hid (stt b b.length = ((ego (b.drop k) (stt b k).1 (stt b k).2.1 []).1, (ego (b.drop k) (stt b k).1 (stt b k).2.1 []).2.1, (stt b k).2.2 ++ (ego (b.drop k) (stt b k).1 (stt b k).2.1 []).2.2)) := by
    show _ = _
    rw [stt_all, hsplit]
  clear hsplit
  generalize (ego (b.drop k) (stt b k).1 (stt b k).2.1 []).1 = L2 at *
  generalize (ego (b.drop k) (stt b k).1 (stt b k).2.1 []).2.1 = r2 at *
  generalize (ego (b.drop k) (stt b k).1 (stt b k).2.1 []).2.2 = o2 at *
  generalize (stt b k).1 = L1 at *
  generalize (stt b k).2.1 = r1 at *
  generalize (stt b k).2.2 = o1 at *
  have hLe1 := hvk.len
  have hLe2 := hv2.len
  have hd := len_dg 31 r2 (by omega)
  have CE : Hid (∀ w, Calls Try.prog 48 #[.agg (EV L2 r2)] w (ListPost w (dg r2 ++ [257]) 0)) := Lib.hid (fun w => eend_in _ _ w hLe2 hv2.bytes (by rw [encOk, (vl_iff hLe2 hv2.bytes).2 hv2, decide_eq_true ⟨by omega, by omega⟩]; rfl) (by omega))
  have hlast : (dg r2 ++ [257]).length ≤ 32 := by rw [List.length_append]; simp only [List.length_cons, List.length_nil]; omega
  generalize dg r2 ++ [257] = D at *
  have hall : (allO b).length ≤ b.length + 1 := len_allO b
  generalize allO b = A at *
  have ho1 : o1.length ≤ 300 := by omega
  have ho2 : o2.length ≤ 600 := by simp only [List.length_nil] at hl2; omega
  have hA : A.length ≤ 400 := by omega
  obtain ⟨i3, hE⟩ := el39
  have HE := Lib.hid hE
  obtain ⟨i5, hE5⟩ := el24
  have HE5 := Lib.hid hE5
  have HV1 := Lib.hid hvk
  have HV2 := Lib.hid hv2
  have HXS : Hid (vs .i64 o1 ++ vs .i64 o2 ++ vs .i64 D = vs .i64 A) := by show _ = _; rw [HALL.out, vs_append, vs_append]
  have HLA : Hid (A.length = (vs .i64 o1).length + (vs .i64 o2).length + (vs .i64 D).length) := by show _ = _; rw [HALL.out]; simp only [length_vs, List.length_append]
  obtain ⟨m, hm0⟩ : ∃ m, (if at_ < 0 then 0 else at_) = m := ⟨_, rfl⟩
  rw [hm0] at hat
  have HM0 := Lib.hid hm0
  have HMM := Lib.hid hat
  clear hm0
  clear hat hE hE5 hc hbb hvk hv2 hl2 hall hrk hr2
  go_enter Try.func13, Try.ntmps13
  have hm := Own.nil w
  go_upto_region 5 with (first
    | (go_at_call 55; have _t := hm; refine (CA.out _ hm.below).mono ?_; rintro e w1 ⟨⟨s1, rfl, hq1⟩, hb1⟩; obtain ⟨aA, cA, rfl⟩ := owns_shape0 hq1; have hm1 := hm.callSl hb1 (by rw [length_vs]; exact hq1); clear hm hq1))
  rw [HM0.out, HMM.out]
  apply wp_region_TJ (.rd 1 (.rd 2 (.rd 3 (.two 0 (.two 4 (.rd 5 (.rd 6 (.rd 7 (.rd 8 (.one 9 (.one 10 (.rd 11 (.rd 12 (.done))))))))) 9 (.one 4 (.rd 5 (.rd 6 (.rd 7 (.rd 8 (.one 10 (.rd 11 (.rd 12 (.done)))))))))) 9 (.one 0 (.one 4 (.rd 5 (.rd 6 (.rd 7 (.rd 8 (.one 10 (.rd 11 (.rd 12 (.done)))))))))))))) (fun W => Below w.heap.size w W) (fun (g : Nat) (a : Option Addr) (c : Nat) (W : World) => Own w W [(g, EV L1 r1)] [(.slice a o1.length c, 3, vs .i64 o1), (.slice aA A.length cA, 3, vs .i64 A)]) rfl (by kernel_rfl) rfl (by kernel_rfl) (hm1.drawn (w1.drawn + 1)).below
  · have hn := hm1.drawn (w1.drawn + 1)
    generalize ({ w1 with drawn := w1.drawn + 1 } : World) = wn at hn ⊢
    refine T_read rfl rfl (fun W hW => by go_simp; rfl) ?_
    try simp only [Act.put, List.setIfInBounds_toArray, List.set_cons_zero, List.set_cons_succ]
    refine T_read rfl rfl (fun W hW => by go_simp; rfl) ?_
    try simp only [Act.put, List.setIfInBounds_toArray, List.set_cons_zero, List.set_cons_succ]
    refine T_read rfl rfl (fun W hW => exec_sub rfl HE5.out rfl (.inl ⟨rfl, rfl⟩) (.inr ⟨_, rfl⟩) (Nat.zero_le _) hkc) ?_
    try simp only [Act.put, List.setIfInBounds_toArray, List.set_cons_zero, List.set_cons_succ]
    refine T_two ?_ ?_
    · refine oneT_do rfl rfl (fun K hK => ?_)
      go_simp
      refine (enew_any _).mono ?_
      rintro e v1 ⟨rfl, hb1⟩
      have k1 := hn.call hb1
      clear hn
      refine hK _ _ ⟨_, fun _ h => h, k1.below, ?_⟩
      clear hK K
      try simp only [Act.put, List.setIfInBounds_toArray, List.set_cons_zero, List.set_cons_succ]
      refine T_two ?_ ?_
      · refine oneT_do rfl rfl (fun K hK => ?_)
        go_simp
        refine (C1.out _ k1.below).mono ?_
        rintro e v2 ⟨⟨s2, rfl, hq2⟩, hb2⟩
        obtain ⟨a2, c2, rfl⟩ := owns_shape0 hq2
        have k2 := k1.callSl hb2 (by rw [length_vs]; exact hq2)
        clear k1
        refine hK _ _ ⟨_, fun _ h => h, k2.below, ?_⟩
        clear hK K
        try simp only [Act.put, List.setIfInBounds_toArray, List.set_cons_zero, List.set_cons_succ]
        refine T_read rfl rfl (fun W hW => by go_simp; rfl) ?_
        try simp only [Act.put, List.setIfInBounds_toArray, List.set_cons_zero, List.set_cons_succ]
        refine T_read rfl rfl (fun W hW => by go_simp; rfl) ?_
        try simp only [Act.put, List.setIfInBounds_toArray, List.set_cons_zero, List.set_cons_succ]
        refine T_read rfl rfl (fun W hW => by go_simp; rfl) ?_
        try simp only [Act.put, List.setIfInBounds_toArray, List.set_cons_zero, List.set_cons_succ]
        refine T_read rfl rfl (fun W hW => by go_simp; rfl) ?_
        try simp only [Act.put, List.setIfInBounds_toArray, List.set_cons_zero, List.set_cons_succ]
        refine T_one ?_
        refine oneT_alloc_o k2 rfl rfl rfl zero57 (fun w' g h => h.below) (fun v3 g3 k3 => ?_)
        clear k2
        try simp only [Act.put, List.setIfInBounds_toArray, List.set_cons_zero, List.set_cons_succ]
        refine T_one ?_
        refine oneT_store_o 0 k3 rfl rfl rfl rfl rfl rfl (aggE _ hLe1) (size_EE _ _ hLe1 len_zeros) (EV_one _ _) (fun w' h => h.below) (fun v4 k4 => ?_)
        simp only [List.set] at k4
        clear k3
        try simp only [Act.put]
        refine T_read rfl rfl (fun W hW => by go_simp; rfl) ?_
        try simp only [Act.put, List.setIfInBounds_toArray, List.set_cons_zero, List.set_cons_succ]
        refine T_read rfl rfl (fun W hW => by go_simp; rfl) ?_
        try simp only [Act.put, List.setIfInBounds_toArray, List.set_cons_zero, List.set_cons_succ]
        refine T_done ?_
        exact ⟨rfl, g3, a2, c2, rfl, k4⟩
      · refine oneT_alloc_o k1 rfl rfl rfl zero57 (fun w' g h => h.below) (fun v5 g5 k5 => ?_)
        clear k1
        try simp only [Act.put, List.setIfInBounds_toArray, List.set_cons_zero, List.set_cons_succ]
        refine T_one ?_
        refine oneT_do rfl rfl (fun K hK => ?_)
        go_simp
        refine (C1.out _ k5.below).mono ?_
        rintro e v6 ⟨⟨s6, rfl, hq6⟩, hb6⟩
        obtain ⟨a6, c6, rfl⟩ := owns_shape0 hq6
        have k6 := k5.callSl hb6 (by rw [length_vs]; exact hq6)
        clear k5
        refine hK _ _ ⟨_, fun _ h => h, k6.below, ?_⟩
        clear hK K
        try simp only [Act.put, List.setIfInBounds_toArray, List.set_cons_zero, List.set_cons_succ]
        refine T_read rfl rfl (fun W hW => by go_simp; rfl) ?_
        try simp only [Act.put, List.setIfInBounds_toArray, List.set_cons_zero, List.set_cons_succ]
        refine T_read rfl rfl (fun W hW => by go_simp; rfl) ?_
        try simp only [Act.put, List.setIfInBounds_toArray, List.set_cons_zero, List.set_cons_succ]
        refine T_read rfl rfl (fun W hW => by go_simp; rfl) ?_
        try simp only [Act.put, List.setIfInBounds_toArray, List.set_cons_zero, List.set_cons_succ]
        refine T_read rfl rfl (fun W hW => by go_simp; rfl) ?_
        try simp only [Act.put, List.setIfInBounds_toArray, List.set_cons_zero, List.set_cons_succ]
        refine T_one ?_
        refine oneT_store_o 0 k6 rfl rfl rfl rfl rfl rfl (aggE _ hLe1) (size_EE _ _ hLe1 len_zeros) (EV_one _ _) (fun w' h => h.below) (fun v7 k7 => ?_)
        simp only [List.set] at k7
        clear k6
        try simp only [Act.put]
        refine T_read rfl rfl (fun W hW => by go_simp; rfl) ?_
        try simp only [Act.put, List.setIfInBounds_toArray, List.set_cons_zero, List.set_cons_succ]
        refine T_read rfl rfl (fun W hW => by go_simp; rfl) ?_
        try simp only [Act.put, List.setIfInBounds_toArray, List.set_cons_zero, List.set_cons_succ]
        refine T_done ?_
        exact ⟨rfl, g5, a6, c6, rfl, k7⟩
    · refine oneT_alloc_o hn rfl rfl rfl zero57 (fun w' g h => h.below) (fun v8 g8 k8 => ?_)
      clear hn
      try simp only [Act.put, List.setIfInBounds_toArray, List.set_cons_zero, List.set_cons_succ]
      refine T_one ?_
      refine oneT_do rfl rfl (fun K hK => ?_)
      go_simp
      refine (enew_any _).mono ?_
      rintro e v9 ⟨rfl, hb9⟩
      have k9 := k8.call hb9
      clear k8
      refine hK _ _ ⟨_, fun _ h => h, k9.below, ?_⟩
      clear hK K
      try simp only [Act.put, List.setIfInBounds_toArray, List.set_cons_zero, List.set_cons_succ]
      refine T_one ?_
      refine oneT_do rfl rfl (fun K hK => ?_)
      go_simp
      refine (C1.out _ k9.below).mono ?_
      rintro e v10 ⟨⟨s10, rfl, hq10⟩, hb10⟩
      obtain ⟨a10, c10, rfl⟩ := owns_shape0 hq10
      have k10 := k9.callSl hb10 (by rw [length_vs]; exact hq10)
      clear k9
      refine hK _ _ ⟨_, fun _ h => h, k10.below, ?_⟩
      clear hK K
      try simp only [Act.put, List.setIfInBounds_toArray, List.set_cons_zero, List.set_cons_succ]
      refine T_read rfl rfl (fun W hW => by go_simp; rfl) ?_
      try simp only [Act.put, List.setIfInBounds_toArray, List.set_cons_zero, List.set_cons_succ]
      refine T_read rfl rfl (fun W hW => by go_simp; rfl) ?_
      try simp only [Act.put, List.setIfInBounds_toArray, List.set_cons_zero, List.set_cons_succ]
      refine T_read rfl rfl (fun W hW => by go_simp; rfl) ?_
      try simp only [Act.put, List.setIfInBounds_toArray, List.set_cons_zero, List.set_cons_succ]
      refine T_read rfl rfl (fun W hW => by go_simp; rfl) ?_
      try simp only [Act.put, List.setIfInBounds_toArray, List.set_cons_zero, List.set_cons_succ]
      refine T_one ?_
      refine oneT_store_o 0 k10 rfl rfl rfl rfl rfl rfl (aggE _ hLe1) (size_EE _ _ hLe1 len_zeros) (EV_one _ _) (fun w' h => h.below) (fun v11 k11 => ?_)
      simp only [List.set] at k11
      clear k10
      try simp only [Act.put]
      refine T_read rfl rfl (fun W hW => by go_simp; rfl) ?_
      try simp only [Act.put, List.setIfInBounds_toArray, List.set_cons_zero, List.set_cons_succ]
      refine T_read rfl rfl (fun W hW => by go_simp; rfl) ?_
      try simp only [Act.put, List.setIfInBounds_toArray, List.set_cons_zero, List.set_cons_succ]
      refine T_done ?_
      exact ⟨rfl, g8, a10, c10, rfl, k11⟩
  clear hm1
  intro g6 a7 c7 w5 hm5
  go_upto_region 6 with fail
  apply wp_region_TJ (.rd 0 (.rd 1 (.rd 2 (.rd 3 (.two 4 (.rd 5 (.rd 6 (.rd 7 (.rd 8 (.one 9 (.one 10 (.rd 11 (.rd 12 (.done))))))))) 9 (.one 4 (.rd 5 (.rd 6 (.rd 7 (.rd 8 (.one 10 (.rd 11 (.rd 12 (.done)))))))))))))) (fun W => Below w.heap.size w W ∧ RowIs W g6 (EV L1 r1)) (fun (g : Nat) (a : Option Addr) (c : Nat) (W : World) => Own w W [(g, EV L2 r2), (g6, EV L1 r1)] [(.slice a o2.length c, 3, vs .i64 o2), (.slice a7 o1.length c7, 3, vs .i64 o1), (.slice aA A.length cA, 3, vs .i64 A)]) rfl (by kernel_rfl) rfl (by kernel_rfl) ⟨(hm5.drawn (w5.drawn + 1)).below, (hm5.drawn (w5.drawn + 1)).row 0 rfl⟩
  · have hn := hm5.drawn (w5.drawn + 1)
    generalize ({ w5 with drawn := w5.drawn + 1 } : World) = wn at hn ⊢
    refine T_read rfl rfl (fun W hW => exec_load_all rfl rfl hW.2 (aggE _ hLe1)) ?_
    try simp only [Act.put, List.setIfInBounds_toArray, List.set_cons_zero, List.set_cons_succ]
    refine T_read rfl rfl (fun W hW => by go_simp; rfl) ?_
    try simp only [Act.put, List.setIfInBounds_toArray, List.set_cons_zero, List.set_cons_succ]
    refine T_read rfl rfl (fun W hW => by go_simp; rfl) ?_
    try simp only [Act.put, List.setIfInBounds_toArray, List.set_cons_zero, List.set_cons_succ]
    refine T_read rfl rfl (fun W hW => exec_sub rfl HE5.out rfl (.inr ⟨_, rfl⟩) (.inl ⟨rfl, rfl⟩) hk hcp) ?_
    try simp only [Act.put, List.setIfInBounds_toArray, List.set_cons_zero, List.set_cons_succ]
    refine T_two ?_ ?_
    · refine oneT_do rfl rfl (fun K hK => ?_)
      go_simp
      refine (C2.out _ hn.below).mono ?_
      rintro e v12 ⟨⟨s12, rfl, hq12⟩, hb12⟩
      obtain ⟨a12, c12, rfl⟩ := owns_shape0 hq12
      have k12 := hn.callSl hb12 (by rw [length_vs]; exact hq12)
      clear hn
      refine hK _ _ ⟨_, fun _ h => h, ⟨k12.below, k12.row 0 rfl⟩, ?_⟩
      clear hK K
      try simp only [Act.put, List.setIfInBounds_toArray, List.set_cons_zero, List.set_cons_succ]
      refine T_read rfl rfl (fun W hW => by go_simp; rfl) ?_
      try simp only [Act.put, List.setIfInBounds_toArray, List.set_cons_zero, List.set_cons_succ]
      refine T_read rfl rfl (fun W hW => by go_simp; rfl) ?_
      try simp only [Act.put, List.setIfInBounds_toArray, List.set_cons_zero, List.set_cons_succ]
      refine T_read rfl rfl (fun W hW => by go_simp; rfl) ?_
      try simp only [Act.put, List.setIfInBounds_toArray, List.set_cons_zero, List.set_cons_succ]
      refine T_read rfl rfl (fun W hW => by go_simp; rfl) ?_
      try simp only [Act.put, List.setIfInBounds_toArray, List.set_cons_zero, List.set_cons_succ]
      refine T_one ?_
      refine oneT_alloc_o k12 rfl rfl rfl zero57 (fun w' g h => ⟨h.below, h.row 1 rfl⟩) (fun v13 g13 k13 => ?_)
      clear k12
      try simp only [Act.put, List.setIfInBounds_toArray, List.set_cons_zero, List.set_cons_succ]
      refine T_one ?_
      refine oneT_store_o 0 k13 rfl rfl rfl rfl rfl rfl (aggE _ hLe2) (size_EE _ _ hLe2 len_zeros) (EV_one _ _) (fun w' h => ⟨h.below, h.row 1 rfl⟩) (fun v14 k14 => ?_)
      simp only [List.set] at k14
      clear k13
      try simp only [Act.put]
      refine T_read rfl rfl (fun W hW => by go_simp; rfl) ?_
      try simp only [Act.put, List.setIfInBounds_toArray, List.set_cons_zero, List.set_cons_succ]
      refine T_read rfl rfl (fun W hW => by go_simp; rfl) ?_
      try simp only [Act.put, List.setIfInBounds_toArray, List.set_cons_zero, List.set_cons_succ]
      refine T_done ?_
      exact ⟨rfl, g13, a12, c12, rfl, k14⟩
    · refine oneT_alloc_o hn rfl rfl rfl zero57 (fun w' g h => ⟨h.below, h.row 1 rfl⟩) (fun v15 g15 k15 => ?_)
      clear hn
      try simp only [Act.put, List.setIfInBounds_toArray, List.set_cons_zero, List.set_cons_succ]
      refine T_one ?_
      refine oneT_do rfl rfl (fun K hK => ?_)
      go_simp
      refine (C2.out _ k15.below).mono ?_
      rintro e v16 ⟨⟨s16, rfl, hq16⟩, hb16⟩
      obtain ⟨a16, c16, rfl⟩ := owns_shape0 hq16
      have k16 := k15.callSl hb16 (by rw [length_vs]; exact hq16)
      clear k15
      refine hK _ _ ⟨_, fun _ h => h, ⟨k16.below, k16.row 1 rfl⟩, ?_⟩
      clear hK K
      try simp only [Act.put, List.setIfInBounds_toArray, List.set_cons_zero, List.set_cons_succ]
      refine T_read rfl rfl (fun W hW => by go_simp; rfl) ?_
      try simp only [Act.put, List.setIfInBounds_toArray, List.set_cons_zero, List.set_cons_succ]
      refine T_read rfl rfl (fun W hW => by go_simp; rfl) ?_
      try simp only [Act.put, List.setIfInBounds_toArray, List.set_cons_zero, List.set_cons_succ]
      refine T_read rfl rfl (fun W hW => by go_simp; rfl) ?_
      try simp only [Act.put, List.setIfInBounds_toArray, List.set_cons_zero, List.set_cons_succ]
      refine T_read rfl rfl (fun W hW => by go_simp; rfl) ?_
      try simp only [Act.put, List.setIfInBounds_toArray, List.set_cons_zero, List.set_cons_succ]
      refine T_one ?_
      refine oneT_store_o 0 k16 rfl rfl rfl rfl rfl rfl (aggE _ hLe2) (size_EE _ _ hLe2 len_zeros) (EV_one _ _) (fun w' h => ⟨h.below, h.row 1 rfl⟩) (fun v17 k17 => ?_)
      simp only [List.set] at k17
      clear k16
      try simp only [Act.put]
      refine T_read rfl rfl (fun W hW => by go_simp; rfl) ?_
      try simp only [Act.put, List.setIfInBounds_toArray, List.set_cons_zero, List.set_cons_succ]
      refine T_read rfl rfl (fun W hW => by go_simp; rfl) ?_
      try simp only [Act.put, List.setIfInBounds_toArray, List.set_cons_zero, List.set_cons_succ]
      refine T_done ?_
      exact ⟨rfl, g15, a16, c16, rfl, k17⟩
  clear hm5
  intro g9 a10 c10 w6 hm6
  go_wp2_with (first
    | (refine wpList_load_all rfl rfl rfl (hm6.row 0 rfl) (aggE _ hLe2) ?_)
    | (go_at_call 48; have _t := hm6; refine (CE.out _).mono ?_; rintro e w7 ⟨⟨s7, rfl, hq7⟩, hb7⟩; obtain ⟨a12, c12, rfl⟩ := owns_shape0 hq7; have hm7 := hm6.callSl hb7 (by rw [length_vs]; exact hq7); clear hm6 hq7)
    | (have hm8 := hm7.newSl #[] 3 (by simp); refine wpList_append_o 0 hm8 rfl rfl HE.out rfl rfl rfl (Src.of_owned (hm8.get 3 rfl)) (vs_one _ _) (by simp only [length_vs, List.length_nil]; omega) (by simp only [length_vs, List.length_nil]; omega) ?_; intro ad9 cp9 w9 hm9; simp only [List.set, List.nil_append, List.length_nil, Nat.zero_add] at hm9; clear hm7 hm8)
    | (refine wpList_append_o 0 hm9 rfl rfl HE.out rfl rfl rfl (Src.of_owned (hm9.get 2 rfl)) (vs_one _ _) (by simp only [length_vs]; omega) (by simp only [length_vs]; omega) ?_; intro ad10 cp10 w10 hm10; simp only [List.set] at hm10; clear hm9)
    | (refine wpList_append_o 0 hm10 rfl rfl HE.out rfl rfl rfl (Src.of_owned (hm10.get 1 rfl)) (vs_one _ _) (by simp only [length_vs, List.length_append]; omega) (by simp only [length_vs, List.length_append]; omega) ?_; intro ad11 cp11 w11 hm11; simp only [List.set] at hm11; clear hm10)
    | (go_at_call 50; have _t := hm11; refine (ints7_any _ _ A A _ ⟨ad11, cp11, by rw [HLA.out]⟩ ⟨_, _, rfl⟩ (by have h := Src.of_owned (hm11.get 0 rfl); simp only [List.length_append] at h; rw [HXS.out] at h; exact h) (Src.of_owned (hm11.get 4 rfl)) (by omega)).mono ?_; rintro e w12 ⟨rfl, hb12⟩; rw [beq_self_eq_true]; have hm12 := (hm11.call hb12).dropSl.dropSl2.dropSl2; clear hm11)
    | (go_at_call 53; have _t := hm12; refine (enew_any _).mono ?_; rintro e w13 ⟨rfl, hb13⟩; have hm13 := hm12.call hb13; clear hm12)
    | (refine wpList_alloc_o hm13 rfl rfl zero57 ?_; intro w14 g14 hm14; clear hm13)
    | (refine wpList_store_o 0 hm14 rfl rfl rfl rfl rfl (aggE _ len_new) (size_EE _ _ len_new len_zeros) (EV_one _ _) ?_; intro w15 hm15; simp only [List.set] at hm15; clear hm14))
  have hm16 := hm15.addNil 3
  clear hm15
  go_loopw [15, 16] (fun o u wr => ∃ (i : Nat) (ao : Option Addr) (co : Nat), i ≤ b.length ∧ u = .int .i64 i ∧ o = .slice ao (stt b i).2.2.length co ∧ Own w wr [(g14, EV (stt b i).1 (stt b i).2.1), (g9, EV L2 r2), (g6, EV L1 r1)] [(.slice ao (stt b i).2.2.length co, 3, vs .i64 (stt b i).2.2), (.slice a12 D.length c12, 3, vs .i64 D), (.slice aA A.length cA, 3, vs .i64 A)]) (fun _ u _ => b.length - (intOf u).toNat)
  case atStart => exact ⟨0, none, 0, by omega, rfl, rfl, hm16⟩
  case round =>
    obtain ⟨i, ao, co, hi, rfl, rfl, hmr⟩ := hrel
    clear hm16
    by_cases hlt : i < b.length
    · obtain ⟨Ad, rfl, hA0⟩ := HC.out i hlt
      have HA : Hid (∀ W, Below w.heap.size w W → W.cell? (Ad.add i) = some (.int .u8 (gi b i))) := Lib.hid (fun W hW => (hW.cell (block_lt_of_cell hA0)).trans hA0)
      have hstep := stt_step b i hlt
      have hV := vl_stt b i
      have hr := run_stt b i
      have hlo := len_stt b i
      have hbk := HBB.out.gi i hlt
      clear hA0
      generalize gi b i = c at *
      have HST := Lib.hid hstep
      clear hstep
      generalize hL0 : (stt b i).1 = L at *
      generalize hr0 : (stt b i).2.1 = r at *
      generalize hO0 : (stt b i).2.2 = O at *
      clear hL0 hr0 hO0
      have hVM := vl_ego [c] L r [] hV
      have hsM := run_ego [c] L r []
      have hkM := len_ego3 [c] L r [] (by simp only [List.length_cons, List.length_nil]; omega)
      have CS : Hid (∀ wz v, In .u8 wz v [c] → Calls Try.prog 46 #[.agg (EV L r), v] wz (StepPost wz (ego [c] L r []).1 (ego [c] L r []).2.1 (ego [c] L r []).2.2 0)) := Lib.hid (fun wz v hv => estep_in L [c] r v wz hV (by intro x hx; rw [List.mem_singleton.1 hx]; exact hbk) hv (by simp) (by simp only [List.length_cons, List.length_nil]; omega))
      generalize (ego [c] L r []).1 = M at *
      generalize (ego [c] L r []).2.1 = s at *
      generalize (ego [c] L r []).2.2 = K2 at *
      have hL := hV.len
      have hM := hVM.len
      have CV : Hid (∀ w, Calls Try.prog 51 #[.agg (EV M s)] w fun e w' => (e = .returned (.bool true)) ∧ Below w.heap.size w w') := Lib.hid (fun w => by
        have e : encOk M s = true := by
          simp only [List.length_cons, List.length_nil] at hsM
          rw [encOk, (vl_iff hM hVM.bytes).2 hVM, decide_eq_true ⟨by omega, by omega⟩]; rfl
        have h := evalid_any M s w hM hVM.bytes
        rwa [e] at h)
      have hK2 : K2.length ≤ 40 := by simp only [List.length_cons, List.length_nil] at hkM; omega
      clear hkM hsM hbk
      go_upto_region 15 with fail
      apply wp_region_TJ4 (.rd 0 (.rd 1 (.rd 2 (.rd 3 (.rd 4 (.two 5 (.two 6 (.rd 7 (.rd 8 (.rd 9 (.rd 10 (.one 11 (.one 12 (.rd 13 (.rd 14 (.done))))))))) 11 (.one 6 (.rd 7 (.rd 8 (.rd 9 (.rd 10 (.one 12 (.rd 13 (.rd 14 (.done)))))))))) 11 (.one 5 (.one 6 (.rd 7 (.rd 8 (.rd 9 (.rd 10 (.one 12 (.rd 13 (.rd 14 (.done)))))))))))))))) (fun W => Below w.heap.size w W ∧ RowIs W g14 (EV L r)) (fun (g : Nat) (q : Nat) (a : Option Addr) (c : Nat) (W : World) => Own w W [(g, EV M s), (g14, EV L r), (g9, EV L2 r2), (g6, EV L1 r1)] [(.slice a K2.length c, 3, vs .i64 K2), (.slice ao O.length co, 3, vs .i64 O), (.slice a12 D.length c12, 3, vs .i64 D), (.slice aA A.length cA, 3, vs .i64 A)]) rfl (by kernel_rfl) rfl (by kernel_rfl) ⟨(hmr.drawn (wr.drawn + 1)).below, (hmr.drawn (wr.drawn + 1)).row 0 rfl⟩
      · have hn := hmr.drawn (wr.drawn + 1)
        generalize ({ wr with drawn := wr.drawn + 1 } : World) = wn at hn ⊢
        refine T_read rfl rfl (fun W hW => exec_load_all rfl rfl hW.2 (aggE _ hL)) ?_
        try simp only [Act.put, List.setIfInBounds_toArray, List.set_cons_zero, List.set_cons_succ]
        refine T_read rfl rfl (fun W hW => by go_simp; rfl) ?_
        try simp only [Act.put, List.setIfInBounds_toArray, List.set_cons_zero, List.set_cons_succ]
        refine T_read rfl rfl (fun W hW => by go_simp; rfl) ?_
        try simp only [Act.put, List.setIfInBounds_toArray, List.set_cons_zero, List.set_cons_succ]
        refine T_read rfl rfl (fun W hW => exec_indexAddr_sl rfl HE5.out rfl rfl rfl hlt) ?_
        try simp only [Act.put, List.setIfInBounds_toArray, List.set_cons_zero, List.set_cons_succ]
        refine T_read rfl rfl (fun W hW => exec_loadaddr rfl rfl one5 (HA.out W hW.1)) ?_
        try simp only [Act.put, List.setIfInBounds_toArray, List.set_cons_zero, List.set_cons_succ]
        refine T_two ?_ ?_
        · refine oneT_build1_o (v := .int .u8 c) hn rfl rfl rfl HE5.out rfl rfl (fun w' g h => ⟨h.below, h.row 1 rfl⟩) (fun v18 g18 k18 => ?_)
          clear hn
          try simp only [Act.put, List.setIfInBounds_toArray, List.set_cons_zero, List.set_cons_succ]
          refine T_two ?_ ?_
          · refine oneT_do rfl rfl (fun K hK => ?_)
            go_simp
            refine (CS.out _ _ (in8 (l := [c]) (k18.row 0 rfl) 1)).mono ?_
            rintro e v19 ⟨⟨s19, rfl, hq19⟩, hb19⟩
            obtain ⟨a19, c19, rfl⟩ := owns_shape0 hq19
            have k19 := k18.callSl hb19 (by rw [length_vs]; exact hq19)
            clear k18
            refine hK _ _ ⟨_, fun _ h => h, ⟨k19.below, k19.row 1 rfl⟩, ?_⟩
            clear hK K
            try simp only [Act.put, List.setIfInBounds_toArray, List.set_cons_zero, List.set_cons_succ]
            refine T_read rfl rfl (fun W hW => by go_simp; rfl) ?_
            try simp only [Act.put, List.setIfInBounds_toArray, List.set_cons_zero, List.set_cons_succ]
            refine T_read rfl rfl (fun W hW => by go_simp; rfl) ?_
            try simp only [Act.put, List.setIfInBounds_toArray, List.set_cons_zero, List.set_cons_succ]
            refine T_read rfl rfl (fun W hW => by go_simp; rfl) ?_
            try simp only [Act.put, List.setIfInBounds_toArray, List.set_cons_zero, List.set_cons_succ]
            refine T_read rfl rfl (fun W hW => by go_simp; rfl) ?_
            try simp only [Act.put, List.setIfInBounds_toArray, List.set_cons_zero, List.set_cons_succ]
            refine T_one ?_
            refine oneT_alloc_o k19 rfl rfl rfl zero57 (fun w' g h => ⟨h.below, h.row 2 rfl⟩) (fun v20 g20 k20 => ?_)
            clear k19
            try simp only [Act.put, List.setIfInBounds_toArray, List.set_cons_zero, List.set_cons_succ]
            refine T_one ?_
            refine oneT_store_o 0 k20 rfl rfl rfl rfl rfl rfl (aggE _ hM) (size_EE _ _ hM len_zeros) (EV_one _ _) (fun w' h => ⟨h.below, h.row 2 rfl⟩) (fun v21 k21 => ?_)
            simp only [List.set] at k21
            clear k20
            try simp only [Act.put]
            refine T_read rfl rfl (fun W hW => by go_simp; rfl) ?_
            try simp only [Act.put, List.setIfInBounds_toArray, List.set_cons_zero, List.set_cons_succ]
            refine T_read rfl rfl (fun W hW => by go_simp; rfl) ?_
            try simp only [Act.put, List.setIfInBounds_toArray, List.set_cons_zero, List.set_cons_succ]
            refine T_done ?_
            exact ⟨rfl, g20, g18, a19, c19, rfl, (k21.sub (List.Sublist.cons_cons _ (List.Sublist.cons _ (List.Sublist.refl _))) (List.Sublist.refl _))⟩
          · refine oneT_alloc_o k18 rfl rfl rfl zero57 (fun w' g h => ⟨h.below, h.row 2 rfl⟩) (fun v22 g22 k22 => ?_)
            clear k18
            try simp only [Act.put, List.setIfInBounds_toArray, List.set_cons_zero, List.set_cons_succ]
            refine T_one ?_
            refine oneT_do rfl rfl (fun K hK => ?_)
            go_simp
            refine (CS.out _ _ (in8 (l := [c]) (k22.row 1 rfl) 1)).mono ?_
            rintro e v23 ⟨⟨s23, rfl, hq23⟩, hb23⟩
            obtain ⟨a23, c23, rfl⟩ := owns_shape0 hq23
            have k23 := k22.callSl hb23 (by rw [length_vs]; exact hq23)
            clear k22
            refine hK _ _ ⟨_, fun _ h => h, ⟨k23.below, k23.row 2 rfl⟩, ?_⟩
            clear hK K
            try simp only [Act.put, List.setIfInBounds_toArray, List.set_cons_zero, List.set_cons_succ]
            refine T_read rfl rfl (fun W hW => by go_simp; rfl) ?_
            try simp only [Act.put, List.setIfInBounds_toArray, List.set_cons_zero, List.set_cons_succ]
            refine T_read rfl rfl (fun W hW => by go_simp; rfl) ?_
            try simp only [Act.put, List.setIfInBounds_toArray, List.set_cons_zero, List.set_cons_succ]
            refine T_read rfl rfl (fun W hW => by go_simp; rfl) ?_
            try simp only [Act.put, List.setIfInBounds_toArray, List.set_cons_zero, List.set_cons_succ]
            refine T_read rfl rfl (fun W hW => by go_simp; rfl) ?_
            try simp only [Act.put, List.setIfInBounds_toArray, List.set_cons_zero, List.set_cons_succ]
            refine T_one ?_
            refine oneT_store_o 0 k23 rfl rfl rfl rfl rfl rfl (aggE _ hM) (size_EE _ _ hM len_zeros) (EV_one _ _) (fun w' h => ⟨h.below, h.row 2 rfl⟩) (fun v24 k24 => ?_)
            simp only [List.set] at k24
            clear k23
            try simp only [Act.put]
            refine T_read rfl rfl (fun W hW => by go_simp; rfl) ?_
            try simp only [Act.put, List.setIfInBounds_toArray, List.set_cons_zero, List.set_cons_succ]
            refine T_read rfl rfl (fun W hW => by go_simp; rfl) ?_
            try simp only [Act.put, List.setIfInBounds_toArray, List.set_cons_zero, List.set_cons_succ]
            refine T_done ?_
            exact ⟨rfl, g22, g18, a23, c23, rfl, (k24.sub (List.Sublist.cons_cons _ (List.Sublist.cons _ (List.Sublist.refl _))) (List.Sublist.refl _))⟩
        · refine oneT_alloc_o hn rfl rfl rfl zero57 (fun w' g h => ⟨h.below, h.row 1 rfl⟩) (fun v25 g25 k25 => ?_)
          clear hn
          try simp only [Act.put, List.setIfInBounds_toArray, List.set_cons_zero, List.set_cons_succ]
          refine T_one ?_
          refine oneT_build1_o (v := .int .u8 c) k25 rfl rfl rfl HE5.out rfl rfl (fun w' g h => ⟨h.below, h.row 2 rfl⟩) (fun v26 g26 k26 => ?_)
          clear k25
          try simp only [Act.put, List.setIfInBounds_toArray, List.set_cons_zero, List.set_cons_succ]
          refine T_one ?_
          refine oneT_do rfl rfl (fun K hK => ?_)
          go_simp
          refine (CS.out _ _ (in8 (l := [c]) (k26.row 0 rfl) 1)).mono ?_
          rintro e v27 ⟨⟨s27, rfl, hq27⟩, hb27⟩
          obtain ⟨a27, c27, rfl⟩ := owns_shape0 hq27
          have k27 := k26.callSl hb27 (by rw [length_vs]; exact hq27)
          clear k26
          refine hK _ _ ⟨_, fun _ h => h, ⟨k27.below, k27.row 2 rfl⟩, ?_⟩
          clear hK K
          try simp only [Act.put, List.setIfInBounds_toArray, List.set_cons_zero, List.set_cons_succ]
          refine T_read rfl rfl (fun W hW => by go_simp; rfl) ?_
          try simp only [Act.put, List.setIfInBounds_toArray, List.set_cons_zero, List.set_cons_succ]
          refine T_read rfl rfl (fun W hW => by go_simp; rfl) ?_
          try simp only [Act.put, List.setIfInBounds_toArray, List.set_cons_zero, List.set_cons_succ]
          refine T_read rfl rfl (fun W hW => by go_simp; rfl) ?_
          try simp only [Act.put, List.setIfInBounds_toArray, List.set_cons_zero, List.set_cons_succ]
          refine T_read rfl rfl (fun W hW => by go_simp; rfl) ?_
          try simp only [Act.put, List.setIfInBounds_toArray, List.set_cons_zero, List.set_cons_succ]
          refine T_one ?_
          refine oneT_store_o 1 k27 rfl rfl rfl rfl rfl rfl (aggE _ hM) (size_EE _ _ hM len_zeros) (EV_one _ _) (fun w' h => ⟨h.below, h.row 2 rfl⟩) (fun v28 k28 => ?_)
          simp only [List.set] at k28
          clear k27
          try simp only [Act.put]
          refine T_read rfl rfl (fun W hW => by go_simp; rfl) ?_
          try simp only [Act.put, List.setIfInBounds_toArray, List.set_cons_zero, List.set_cons_succ]
          refine T_read rfl rfl (fun W hW => by go_simp; rfl) ?_
          try simp only [Act.put, List.setIfInBounds_toArray, List.set_cons_zero, List.set_cons_succ]
          refine T_done ?_
          exact ⟨rfl, g25, g26, a27, c27, rfl, k28.dropRow⟩
      clear hmr
      intro g17 g89 a18 c18 w17 hm17
      go_wp2_with (first
        | (refine wpList_load_all rfl rfl rfl (hm17.row 0 rfl) (aggE _ hM) ?_)
        | (go_at_call 51; have _t := hm17; refine (CV.out _).mono ?_; rintro e w18 ⟨rfl, hb18⟩; have hm18 := hm17.call hb18; clear hm17)
        | (refine wpList_load_all rfl rfl rfl (hm18.row 0 rfl) (aggE _ hM) ?_)
        | (refine wpList_store_o 1 hm18 rfl rfl rfl rfl rfl (aggE _ hM) (size_EE _ _ hM hL) (EV_one _ _) ?_; intro w19 hm19; simp only [List.set] at hm19; clear hm18)
        | (refine wpList_append_o 1 hm19 rfl rfl HE.out rfl rfl rfl (Src.of_owned (hm19.get 0 rfl)) (vs_one _ _) (by simp only [length_vs]; omega) (by simp only [length_vs]; omega) ?_; intro ad20 cp20 w20 hm20; simp only [List.set] at hm20; clear hm19))
      go_roundw
      case rel =>
        have e3 : (vs .i64 O).length + (vs .i64 K2).length = (O ++ K2).length := by simp [length_vs]
        rw [← vs_append, e3] at hm20
        refine ⟨i + 1, ad20, cp20, by omega, by go_num, ?_, ?_⟩
        · rw [HST.out, e3]
        · rw [HST.out]; exact hm20.dropRow.dropSl
      case measure => simp [intOf]; omega
    · obtain rfl : i = b.length := by omega
      rw [HEND.out] at hmr ⊢
      dsimp only at hmr ⊢
      have hxt : vs .i64 (o1 ++ o2) ++ vs .i64 D = vs .i64 A := by rw [HALL.out, vs_append, vs_append, vs_append]
      have hlb : A.length = (vs .i64 (o1 ++ o2)).length + (vs .i64 D).length := by rw [HALL.out]; simp only [length_vs, List.length_append]
      have h12 : (o1 ++ o2).length ≤ 900 := by rw [List.length_append]; omega
      have HXT := Lib.hid hxt
      have HLB := Lib.hid hlb
      clear hxt hlb HXS HLA HALL HEND
      generalize o1 ++ o2 = O12 at *
      go_wp2_with (first
        | (refine wpList_load_all rfl rfl rfl (hmr.row 0 rfl) (aggE _ hLe2) ?_)
        | (refine wpList_load_all rfl rfl rfl (hmr.row 1 rfl) (aggE _ hLe2) ?_)
        | (refine wpList_run rfl (exec_eql57 (b := true) rfl rfl rfl hLe2 hLe2 (by simp)) ?_)
        | (refine wpList_append_o 0 hmr rfl rfl HE.out rfl rfl rfl (Src.of_owned (hmr.get 1 rfl)) (vs_one _ _) (by simp only [length_vs]; omega) (by simp only [length_vs]; omega) ?_; intro ad20 cp20 w20 hm20; simp only [List.set] at hm20; clear hmr)
        | (go_at_call 50; have _t := hm20; refine (ints7_any _ _ A A _ ⟨ad20, cp20, by rw [HLB.out]⟩ ⟨_, _, rfl⟩ (by have h := Src.of_owned (hm20.get 0 rfl); rw [HXT.out] at h; exact h) (Src.of_owned (hm20.get 2 rfl)) (by omega)).mono ?_; rintro e w21 ⟨rfl, hb21⟩; rw [beq_self_eq_true]; have hm21 := hm20.call hb21; clear hm20)
        | (go_at_call 45; have _t := hm21; refine (wakes15 _).mono ?_; rintro e w22 ⟨rfl, hb22⟩; have hm22 := hm21.call hb22; clear hm21))
      go_ret
      exact ⟨rfl, hm22.below⟩
theorem sep15 (v : Value) (b : List Int) (at_ : Int) (w : World) (hbb : Bytes b) (hv : InC .u8 w v b) : Calls Try.prog 13 #[v, .int .i64 at_] w fun e w' => e = .returned (.bool true) ∧ Below w.heap.size w w' := by
  by_cases h : (300 : Int) < b.length
  · exact sep_w1 v b at_ w hv.toIn h
  · have hk : 0 ≤ (if (b.length : Int) < (if at_ < 0 then 0 else at_) then (b.length : Int) else (if at_ < 0 then 0 else at_)) ∧ (if (b.length : Int) < (if at_ < 0 then 0 else at_) then (b.length : Int) else (if at_ < 0 then 0 else at_)) ≤ b.length := by
      split <;> split <;> omega
    obtain ⟨k, hk0⟩ := Int.eq_ofNat_of_zero_le hk.1
    exact sep_in v b at_ k w hbb hv h (by omega) hk0
end Go.Proofs.Ytaccjnekonmkoaa
