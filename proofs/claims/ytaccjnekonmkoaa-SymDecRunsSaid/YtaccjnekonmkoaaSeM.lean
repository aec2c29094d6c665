/-
  The walk of winepresslaw15.SymEncMatches.
-/
import Derived.Test.YtaccjnekonmkoaaSeW
import Derived.Test.YtaccjnekonmkoaaZrQ
namespace Go.Proofs.Ytaccjnekonmkoaa
open Go Go.RowKit

theorem len_ego2 : ∀ (b l : List Int) (r : Nat) (out : List Int), (ego b l r out).2.2.length + (ego b l r out).2.1 ≤ out.length + r + b.length
  | [], _, _, _ => by rw [ego]; simp
  | c :: b, l, r, out => by
    rw [ego, List.length_cons]
    split
    · have := len_ego2 b (putL l c) (r + 1) out; omega
    · have h2 := len_ego2 b (putL l c) 0 (out ++ dg r ++ [pos l c + 1])
      have h3 := len_dg_le r r (Nat.le_refl _)
      simp only [List.length_append, List.length_cons, List.length_nil] at h2
      omega
theorem ego_out : ∀ (b l : List Int) (r : Nat) (out : List Int), ego b l r out = ((ego b l r []).1, (ego b l r []).2.1, out ++ (ego b l r []).2.2)
  | [], l, r, out => by rw [ego, ego]; simp
  | c :: b, l, r, out => by
    rw [ego, ego]
    by_cases h : pos l c = 0
    · rw [if_pos h, if_pos h]; exact ego_out b _ _ _
    · rw [if_neg h, if_neg h, ego_out b _ _ (out ++ dg r ++ [pos l c + 1]), ego_out b _ _ ([] ++ dg r ++ [pos l c + 1])]
      simp
theorem len_ego3 : ∀ (b l : List Int) (r : Nat) (out : List Int), r + b.length < 2 ^ 31 → (ego b l r out).2.2.length ≤ out.length + 31 + 2 * b.length
  | [], _, _, _, _ => by rw [ego]; simp
  | c :: b, l, r, out, h => by
    rw [List.length_cons] at h
    rw [ego, List.length_cons]
    split
    · have := len_ego3 b (putL l c) (r + 1) out (by omega); omega
    · have h2 := len_ego2 b (putL l c) 0 (out ++ dg r ++ [pos l c + 1])
      have h3 := len_dg 31 r (by omega)
      simp only [List.length_append, List.length_cons, List.length_nil] at h2
      omega
theorem len_stepO (l : List Int) (r : Int) (b : List Int) : (stepO l r b).length ≤ 31 + 2 * b.length := by
  rw [stepO]
  split
  · rename_i h
    rw [stepOk, Bool.and_eq_true, encOk, Bool.and_eq_true] at h
    have h1 := of_decide_eq_true h.1.2
    have h2 := of_decide_eq_true h.2
    have := len_ego3 b l r.toNat [] (by omega)
    simpa using this
  · simp
theorem len_allO (b : List Int) : (allO b).length ≤ b.length + 1 := by
  have h1 := len_ego2 b new 0 []
  have h2 := len_dg_le (ego b new 0 []).2.1 _ (Nat.le_refl _)
  simp only [List.length_nil] at h1
  rw [allO, List.length_append, List.length_append, List.length_cons, List.length_nil]
  omega
theorem len_endO (l : List Int) (r : Int) : (endO l r).length ≤ 32 := by
  rw [endO]
  split
  · rename_i h
    rw [encOk, Bool.and_eq_true] at h
    have h1 := of_decide_eq_true h.2
    have := len_dg 31 r.toNat (by omega)
    rw [List.length_append]; simp only [List.length_cons, List.length_nil]; omega
  · simp
theorem len_stepL (l : List Int) (r : Int) (b : List Int) (hl : l.length = 256) (hb : Bytes l) : (stepL l r b).length = 256 := by
  rw [stepL]
  split
  · rename_i h
    rw [stepOk, Bool.and_eq_true, encOk, Bool.and_eq_true] at h
    exact (vl_ego b l r.toNat [] ((vl_iff hl hb).1 h.1.1)).len
  · exact hl
set_option maxRecDepth 100000 in
theorem sem_w1 (l : List Int) (r : Int) (v : Value) (b : List Int) (w : World) (hv : In .u8 w v b) (h : (400 : Int) < b.length) : Calls Try.prog 12 #[.agg (EV l r), v] w fun e w' => e = .returned (.bool true) ∧ Below w.heap.size w w' := by
  obtain ⟨ad, cp, rfl, _⟩ := hv
  go_enter Try.func12, Try.ntmps12
  have hm := Own.nil w
  go_wp2_with (first
    | (refine wpList_box_o hm rfl rfl rfl ?_; intro w1 g1 hm1; clear hm)
    | (go_at_call 45; have _t := hm1; refine (wakes15 _).mono ?_; rintro e w2 ⟨rfl, hb2⟩; have hm2 := hm1.call hb2; clear hm1))
  go_ret
  exact ⟨rfl, hm2.below⟩
set_option maxRecDepth 100000 in
set_option maxHeartbeats 4000000 in
theorem sem_in (l : List Int) (r : Int) (v : Value) (b : List Int) (w : World) (hl : l.length = 256) (hbl : Bytes l) (hbb : Bytes b) (hv : In .u8 w v b) (h : ¬ (400 : Int) < b.length) : Calls Try.prog 12 #[.agg (EV l r), v] w fun e w' => e = .returned (.bool true) ∧ Below w.heap.size w w' := by
  have HV := Lib.hid hv
  obtain ⟨ad, cp, rfl, _⟩ := hv
  have hsl := len_stepL l r b hl hbl
  have hso := len_stepO l r b
  have hal := len_allO b
  have hen := len_endO l r
  have CS : Hid (∀ wz, Below w.heap.size w wz → Calls Try.prog 46 #[.agg (EV l r), .slice ad b.length cp] wz (StepPost wz (stepL l r b) (stepR l r b) (stepO l r b) (stepE l r b))) := Lib.hid (fun wz hb => estep_any l b r _ wz hl hbl hbb (HV.out.below hb) (by omega))
  have CT : Hid (∀ wz, Below w.heap.size w wz → Calls Try.prog 47 #[.agg (EV l r), .slice ad b.length cp] wz (StepPost wz (stepL l r b) (stepR l r b) (stepO l r b) (stepE l r b))) := Lib.hid (fun wz hb => restep_any l b r _ wz hl hbl hbb (HV.out.below hb) (by omega))
  have CE : Hid (∀ w, Calls Try.prog 48 #[.agg (EV l r)] w (ListPost w (endO l r) (endE l r))) := Lib.hid (fun w => eend_any l r w hl hbl)
  have CF : Hid (∀ w, Calls Try.prog 49 #[.agg (EV l r)] w (ListPost w (endO l r) (endE l r))) := Lib.hid (fun w => reend_any l r w hl hbl)
  have CV : Hid (∀ w, Calls Try.prog 51 #[.agg (EV l r)] w fun e w' => (e = .returned (.bool (encOk l r))) ∧ Below w.heap.size w w') := Lib.hid (fun w => evalid_any l r w hl hbl)
  have CW : Hid (∀ w, Calls Try.prog 52 #[.agg (EV l r)] w fun e w' => (e = .returned (.bool (encOk l r))) ∧ Below w.heap.size w w') := Lib.hid (fun w => revalid_any l r w hl hbl)
  have CA : Hid (∀ wz, Below w.heap.size w wz → Calls Try.prog 55 #[.slice ad b.length cp] wz (RunPost wz (allO b))) := Lib.hid (fun wz hb => eall_any b _ wz hbb (HV.out.below hb) (by omega))
  have CB : Hid (∀ wz, Below w.heap.size w wz → Calls Try.prog 56 #[.slice ad b.length cp] wz (RunPost wz (allO b))) := Lib.hid (fun wz hb => reall_any b _ wz hbb (HV.out.below hb) (by omega))
  generalize stepL l r b = L at *
  generalize stepR l r b = R at *
  generalize stepO l r b = O at *
  generalize stepE l r b = E at *
  generalize endO l r = Z at *
  generalize endE l r = Ze at *
  generalize encOk l r = K0 at *
  generalize allO b = A at *
  have hO : O.length ≤ 1000 := by omega
  have hA : A.length ≤ 1000 := by omega
  clear hso hal hbl hbb
  go_enter Try.func12, Try.ntmps12
  have hm := Own.nil w
  go_upto_region 9 with (first
    | (refine wpList_box_o hm rfl rfl rfl ?_; intro w1 g1 hm1; clear hm)
    | (refine wpList_load_all rfl rfl rfl (hm1.row 0 rfl) (aggE _ hl) ?_)
    | (go_at_call 46; have _t := hm1; refine (CS.out _ hm1.below).mono ?_; rintro e w3 ⟨⟨r3, rfl, ho3⟩, hb3⟩; obtain ⟨a3, c3, rfl⟩ := owns_shape0 ho3; have hm3 := hm1.callSl hb3 (by rw [length_vs]; exact ho3); clear hm1 ho3)
    | (refine wpList_alloc_o hm3 rfl rfl zero57 ?_; intro w4 g4 hm4; clear hm3)
    | (refine wpList_store_o 0 hm4 rfl rfl rfl rfl rfl (aggE _ hsl) (size_EE _ _ hsl len_zeros) (EV_one _ _) ?_; intro w5 hm5; simp only [List.set] at hm5; clear hm4)
    | (refine wpList_load_all rfl rfl rfl (hm5.row 1 rfl) (aggE _ hl) ?_)
    | (go_at_call 47; have _t := hm5; refine (CT.out _ hm5.below).mono ?_; rintro e w6 ⟨⟨r6, rfl, ho6⟩, hb6⟩; obtain ⟨a6, c6, rfl⟩ := owns_shape0 ho6; have hm6 := hm5.callSl hb6 (by rw [length_vs]; exact ho6); clear hm5 ho6)
    | (refine wpList_alloc_o hm6 rfl rfl zero57 ?_; intro w7 g7 hm7; clear hm6)
    | (refine wpList_store_o 0 hm7 rfl rfl rfl rfl rfl (aggE _ hsl) (size_EE _ _ hsl len_zeros) (EV_one _ _) ?_; intro w8 hm8; simp only [List.set] at hm8; clear hm7)
    | (refine wpList_load_all rfl rfl rfl (hm8.row 2 rfl) (aggE _ hl) ?_)
    | (go_at_call 48; have _t := hm8; refine (CE.out _).mono ?_; rintro e w9 ⟨⟨r9, rfl, ho9⟩, hb9⟩; obtain ⟨a9, c9, rfl⟩ := owns_shape0 ho9; have hm9 := hm8.callSl hb9 (by rw [length_vs]; exact ho9); clear hm8 ho9)
    | (refine wpList_load_all rfl rfl rfl (hm9.row 2 rfl) (aggE _ hl) ?_)
    | (go_at_call 49; have _t := hm9; refine (CF.out _).mono ?_; rintro e w10 ⟨⟨r10, rfl, ho10⟩, hb10⟩; obtain ⟨a10, c10, rfl⟩ := owns_shape0 ho10; have hm10 := hm9.callSl hb10 (by rw [length_vs]; exact ho10); clear hm9 ho10)
    | (refine wpList_load_all rfl rfl rfl (hm10.row 1 rfl) (aggE _ hsl) ?_)
    | (refine wpList_load_all rfl rfl rfl (hm10.row 0 rfl) (aggE _ hsl) ?_)
    | (refine wpList_run rfl (exec_neq57 (b := false) rfl rfl rfl hsl hsl (by simp)) ?_)
    | (go_at_call 50; have _t := hm10; refine (ints7_any _ _ O O _ ⟨_, _, rfl⟩ ⟨_, _, rfl⟩ (Src.of_owned (hm10.get 3 rfl)) (Src.of_owned (hm10.get 2 rfl)) (by omega)).mono ?_; rintro e w11 ⟨rfl, hb11⟩; rw [beq_self_eq_true]; have hm11 := hm10.call hb11; clear hm10)
    | (go_at_call 50; have _t := hm11; refine (ints7_any _ _ Z Z _ ⟨_, _, rfl⟩ ⟨_, _, rfl⟩ (Src.of_owned (hm11.get 1 rfl)) (Src.of_owned (hm11.get 0 rfl)) (by omega)).mono ?_; rintro e w12 ⟨rfl, hb12⟩; rw [beq_self_eq_true]; have hm12 := (hm11.call hb12).dropSl.dropSl.dropSl.dropSl.dropRow.dropRow; clear hm11))
  refine wp_region_ord [(0, true), (2, true), (1, false), (3, false), (4, true), (5, true), (6, false), (7, false), (8, true), (9, true), (10, true), (11, true), (13, true), (12, false), (14, false), (15, false), (16, true), (17, true), (18, false), (19, true), (20, true)] (fun W => Below w.heap.size w W ∧ RowIs W g1 (EV l r)) rfl (by kernel_rfl) rfl (by kernel_rfl) (fun _ _ d _ _ h => by cases d <;> exact h) ⟨(hm12.drawn (w12.drawn + 1)).below, (hm12.drawn (w12.drawn + 1)).row 0 rfl⟩ ?_
  have hn := hm12.drawn (w12.drawn + 1)
  generalize ({ w12 with drawn := w12.drawn + 1 } : World) = wn at hn ⊢
  clear hm12
  refine ord_readl rfl rfl (fun W hW => exec_load_all rfl rfl hW.2 (aggE _ hl)) ?_
  simp only [Act.put, List.setIfInBounds_toArray, List.set_cons_zero, List.set_cons_succ]
  refine ord_readl rfl rfl (fun W hW => exec_load_all rfl rfl hW.2 (aggE _ hl)) ?_
  simp only [Act.put, List.setIfInBounds_toArray, List.set_cons_zero, List.set_cons_succ]
  refine ord_dol rfl rfl (fun K hK => ?_)
  go_simp
  refine (CV.out _).mono ?_
  rintro e v1 ⟨rfl, hb1⟩
  have k1 := hn.call hb1; clear hn
  refine hK _ _ ⟨_, fun _ h => h, ⟨k1.below, k1.row 0 rfl⟩, ?_⟩
  clear hK K
  try simp only [Act.put, List.setIfInBounds_toArray, List.set_cons_zero, List.set_cons_succ]
  refine ord_dol rfl rfl (fun K hK => ?_)
  go_simp
  refine (CW.out _).mono ?_
  rintro e v2 ⟨rfl, hb2⟩
  have k2 := k1.call hb2; clear k1
  refine hK _ _ ⟨_, fun _ h => h, ⟨k2.below, k2.row 0 rfl⟩, ?_⟩
  clear hK K
  try simp only [Act.put, List.setIfInBounds_toArray, List.set_cons_zero, List.set_cons_succ]
  refine ord_readl rfl rfl (fun W hW => by go_simp; rfl) ?_
  simp only [Act.put, List.setIfInBounds_toArray, List.set_cons_zero, List.set_cons_succ]
  refine ord_readl rfl rfl (fun W hW => by go_simp; rfl) ?_
  simp only [Act.put, List.setIfInBounds_toArray, List.set_cons_zero, List.set_cons_succ]
  refine ord_dol rfl rfl (fun K hK => ?_)
  go_simp
  refine (enew_any _).mono ?_
  rintro e v3 ⟨rfl, hb3⟩
  have k3 := k2.call hb3; clear k2
  refine hK _ _ ⟨_, fun _ h => h, ⟨k3.below, k3.row 0 rfl⟩, ?_⟩
  clear hK K
  try simp only [Act.put, List.setIfInBounds_toArray, List.set_cons_zero, List.set_cons_succ]
  refine ord_dol rfl rfl (fun K hK => ?_)
  go_simp
  refine (renew_any _).mono ?_
  rintro e v4 ⟨rfl, hb4⟩
  have k4 := k3.call hb4; clear k3
  refine hK _ _ ⟨_, fun _ h => h, ⟨k4.below, k4.row 0 rfl⟩, ?_⟩
  clear hK K
  try simp only [Act.put, List.setIfInBounds_toArray, List.set_cons_zero, List.set_cons_succ]
  refine ord_readl rfl rfl (fun W hW => exec_eql57 (b := true) rfl rfl rfl len_new len_new (by simp)) ?_
  simp only [Act.put, List.setIfInBounds_toArray, List.set_cons_zero, List.set_cons_succ]
  refine ord_readl rfl rfl (fun W hW => by go_simp; rfl) ?_
  simp only [Act.put, List.setIfInBounds_toArray, List.set_cons_zero, List.set_cons_succ]
  refine ord_readl rfl rfl (fun W hW => by go_simp; rfl) ?_
  simp only [Act.put, List.setIfInBounds_toArray, List.set_cons_zero, List.set_cons_succ]
  refine ord_readl rfl rfl (fun W hW => by go_simp; rfl) ?_
  simp only [Act.put, List.setIfInBounds_toArray, List.set_cons_zero, List.set_cons_succ]
  refine ord_readl rfl rfl (fun W hW => by go_simp; rfl) ?_
  simp only [Act.put, List.setIfInBounds_toArray, List.set_cons_zero, List.set_cons_succ]
  refine ord_dol rfl rfl (fun K hK => ?_)
  go_simp
  refine (CA.out _ k4.below).mono ?_
  rintro e v5 ⟨⟨s5, rfl, ho5⟩, hb5⟩
  obtain ⟨aA, cA, rfl⟩ := owns_shape0 ho5; have k5 := k4.callSl hb5 (by rw [length_vs]; exact ho5); clear k4
  refine hK _ _ ⟨_, fun _ h => h, ⟨k5.below, k5.row 0 rfl⟩, ?_⟩
  clear hK K
  try simp only [Act.put, List.setIfInBounds_toArray, List.set_cons_zero, List.set_cons_succ]
  refine ord_dol rfl rfl (fun K hK => ?_)
  go_simp
  refine (CB.out _ k5.below).mono ?_
  rintro e v6 ⟨⟨s6, rfl, ho6⟩, hb6⟩
  obtain ⟨aB, cB, rfl⟩ := owns_shape0 ho6; have k6 := k5.callSl hb6 (by rw [length_vs]; exact ho6); clear k5
  refine hK _ _ ⟨_, fun _ h => h, ⟨k6.below, k6.row 0 rfl⟩, ?_⟩
  clear hK K
  try simp only [Act.put, List.setIfInBounds_toArray, List.set_cons_zero, List.set_cons_succ]
  refine ord_dol rfl rfl (fun K hK => ?_)
  go_simp
  refine (ints7_any _ _ A A _ ⟨_, _, rfl⟩ ⟨_, _, rfl⟩ (Src.of_owned (k6.get 1 rfl)) (Src.of_owned (k6.get 0 rfl)) (by omega)).mono ?_
  rintro e v7 ⟨rfl, hb7⟩
  rw [beq_self_eq_true]; have k7 := k6.call hb7; clear k6
  refine hK _ _ ⟨_, fun _ h => h, ⟨k7.below, k7.row 0 rfl⟩, ?_⟩
  clear hK K
  try simp only [Act.put, List.setIfInBounds_toArray, List.set_cons_zero, List.set_cons_succ]
  refine ord_readl rfl rfl (fun W hW => by go_simp; rfl) ?_
  simp only [Act.put, List.setIfInBounds_toArray, List.set_cons_zero, List.set_cons_succ]
  refine ord_readl rfl rfl (fun W hW => by go_simp; rfl) ?_
  simp only [Act.put, List.setIfInBounds_toArray, List.set_cons_zero, List.set_cons_succ]
  refine ord_dol rfl rfl (fun K hK => ?_)
  go_simp
  refine (wakes15 _).mono ?_
  rintro e v8 ⟨rfl, hb8⟩
  have k8 := k7.call hb8; clear k7
  refine hK _ _ ⟨_, fun _ h => h, ⟨k8.below, k8.row 0 rfl⟩, ?_⟩
  clear hK K
  try simp only [Act.put, List.setIfInBounds_toArray, List.set_cons_zero, List.set_cons_succ]
  refine ord_readl rfl rfl (fun W hW => by go_simp; rfl) ?_
  simp only [Act.put, List.setIfInBounds_toArray, List.set_cons_zero, List.set_cons_succ]
  refine ord_readl rfl rfl (fun W hW => by go_simp; rfl) ?_
  simp only [Act.put, List.setIfInBounds_toArray, List.set_cons_zero, List.set_cons_succ]
  refine ord_nil ?_
  go_simp
  go_wp2
  go_ret
  exact ⟨rfl, k8.below⟩
theorem sem15 (l : List Int) (r : Int) (v : Value) (b : List Int) (w : World) (hl : l.length = 256) (hbl : Bytes l) (hbb : Bytes b) (hv : In .u8 w v b) : Calls Try.prog 12 #[.agg (EV l r), v] w fun e w' => e = .returned (.bool true) ∧ Below w.heap.size w w' := by
  by_cases h : (400 : Int) < b.length
  · exact sem_w1 l r v b w hv h
  · exact sem_in l r v b w hl hbl hbb hv h
end Go.Proofs.Ytaccjnekonmkoaa
