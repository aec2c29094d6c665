/-
  The walks of symenc.End, symenc.All and their references.
-/
import Derived.Test.YtaccjnekonmkoaaSeD
namespace Go.Proofs.Ytaccjnekonmkoaa
open Go Go.RowKit

def endO (l : List Int) (r : Int) : List Int := if encOk l r then dg r.toNat ++ [257] else []
def endE (l : List Int) (r : Int) : Int := if encOk l r then 0 else 2
/-- The symbols of bytes. -/
def allO (b : List Int) : List Int := (ego b new 0 []).2.2 ++ (dg (ego b new 0 []).2.1 ++ [257])
theorem vl_ego : ∀ (b l : List Int) (r : Nat) (out : List Int), Vl l → Vl (ego b l r out).1
  | [], _, _, _, h => h
  | c :: b, l, r, out, h => by
    rw [ego]
    split
    · exact vl_ego b _ _ _ (h.putL c)
    · exact vl_ego b _ _ _ (h.putL c)
theorem run_ego : ∀ (b l : List Int) (r : Nat) (out : List Int), (ego b l r out).2.1 ≤ r + b.length
  | [], _, _, _ => by rw [ego]; simp
  | c :: b, l, r, out => by
    rw [ego, List.length_cons]
    split
    · have := run_ego b (putL l c) (r + 1) out; omega
    · have := run_ego b (putL l c) 0 (out ++ dg r ++ [pos l c + 1]); omega
theorem len_ego : ∀ (b l : List Int) (r : Nat) (out : List Int), r + b.length < 2 ^ 31 → (ego b l r out).2.2.length ≤ out.length + 32 * b.length
  | [], _, _, _, _ => by rw [ego]; simp
  | c :: b, l, r, out, h => by
    rw [List.length_cons] at h
    rw [ego, List.length_cons]
    split
    · have := len_ego b (putL l c) (r + 1) out (by omega); omega
    · have h2 := len_ego b (putL l c) 0 (out ++ dg r ++ [pos l c + 1]) (by omega)
      have h3 := len_dg 31 r (by omega)
      simp only [List.length_append, List.length_cons, List.length_nil] at h2
      omega
set_option maxRecDepth 100000 in
set_option maxHeartbeats 1000000 in
theorem eend_bad (l : List Int) (r : Int) (w : World) (hl : l.length = 256) (hb : Bytes l) (hbad : encOk l r = false) : Calls Try.prog 48 #[.agg (EV l r)] w (ListPost w [] 2) := by
  have CV : Hid (∀ w, Calls Try.prog 51 #[.agg (EV l r)] w fun e w' => (e = .returned (.bool false)) ∧ Below w.heap.size w w') := Lib.hid (fun w => by rw [← hbad]; exact evalid_any l r w hl hb)
  clear hbad
  go_enter Try.func48, Try.ntmps48
  have hm := Own.nil w
  go_wp2_with (first
    | (refine wpList_box_o hm rfl rfl rfl ?_; intro w1 g hm1; clear hm)
    | (refine wpList_load_all rfl rfl rfl (hm1.row 0 rfl) (aggE _ hl) ?_)
    | (go_at_call 51; have _t := hm1; refine (CV.out _).mono ?_; rintro e w3 ⟨rfl, hb3⟩; have hm3 := hm1.call hb3; clear hm1))
  go_ret2
  exact ⟨⟨_, rfl, World.ownsRow_nil _ _ _ _⟩, hm3.below⟩
set_option maxRecDepth 100000 in
set_option maxHeartbeats 1000000 in
theorem eend_in (l : List Int) (r : Nat) (w : World) (hl : l.length = 256) (hb : Bytes l) (hok : encOk l r = true) (hr : r < 2 ^ 31) : Calls Try.prog 48 #[.agg (EV l r)] w (ListPost w (dg r ++ [257]) 0) := by
  have CV : Hid (∀ w, Calls Try.prog 51 #[.agg (EV l r)] w fun e w' => (e = .returned (.bool true)) ∧ Below w.heap.size w w') := Lib.hid (fun w => by rw [← hok]; exact evalid_any l r w hl hb)
  have CD : Hid (∀ w, Calls Try.prog 34 #[.int .i64 (r : Int)] w (ListPost w (dg r) 0)) := Lib.hid (fun w => by
    have h := digits_any r w
    rw [dgO, dgE, if_pos ⟨by omega, by omega⟩, if_pos ⟨by omega, by omega⟩, Int.toNat_natCast] at h
    exact h)
  have hd := len_dg 31 r hr
  obtain ⟨i3, hE⟩ := el39
  have HE := Lib.hid hE
  clear hok hE
  generalize dg r = D at *
  go_enter Try.func48, Try.ntmps48
  have hm := Own.nil w
  go_wp2_with (first
    | (refine wpList_box_o hm rfl rfl rfl ?_; intro w1 g hm1; clear hm)
    | (refine wpList_load_all rfl rfl rfl (hm1.row 0 rfl) (aggE _ hl) ?_)
    | (go_at_call 51; have _t := hm1; refine (CV.out _).mono ?_; rintro e w3 ⟨rfl, hb3⟩; have hm3 := hm1.call hb3; clear hm1)
    | (refine wpList_run rfl (exec_loadcell' rfl rfl (hm3.row 0 rfl) one3 (run_EV _ hl)) ?_)
    | (go_at_call 34; have _t := hm3; refine (CD.out _).mono ?_; rintro e w4 ⟨⟨r4, rfl, ho4⟩, hb4⟩; obtain ⟨a4, c4, rfl⟩ := owns_shape0 ho4; have hm4 := hm3.callSl hb4 (by rw [length_vs]; exact ho4); clear hm3 ho4)
    | (refine wpList_build1_o (v := .int .i64 257) hm4 rfl rfl HE.out rfl rfl ?_; intro w8 g8 hm8; clear hm4)
    | (refine wpList_append_o 0 hm8 rfl rfl HE.out rfl rfl rfl (Src.one (hm8.row 0 rfl)) (one_list _ rfl) (by simp only [length_vs, List.length_cons, List.length_nil]; omega) (by simp only [length_vs, List.length_cons, List.length_nil]; omega) ?_; intro ad9 c9 w9 hm9; simp only [List.set] at hm9; clear hm8))
  go_ret2
  have e : vs .i64 D ++ [Value.int .i64 257] = vs .i64 (D ++ [257]) := by simp [vs]
  have e3 : (vs .i64 D).length + [Value.int .i64 257].length = (D ++ [257]).length := by simp [length_vs]
  rw [e, e3] at hm9
  have hg := hm9.get 0 rfl
  dsimp only at hg
  refine ⟨⟨_, rfl, ?_⟩, hm9.below⟩
  have e4 : (vs .i64 D).length + 1 = (D ++ [257]).length := by simp [length_vs]
  have h := own_len0 hg
  rw [← e4] at h ⊢
  exact h
theorem eend_any (l : List Int) (r : Int) (w : World) (hl : l.length = 256) (hb : Bytes l) : Calls Try.prog 48 #[.agg (EV l r)] w (ListPost w (endO l r) (endE l r)) := by
  rw [endO, endE]
  cases ho : encOk l r with
  | false => exact eend_bad l r w hl hb ho
  | true =>
    have hh := ho
    rw [encOk, Bool.and_eq_true] at hh
    have hr := of_decide_eq_true hh.2
    obtain ⟨s, rfl⟩ := Int.eq_ofNat_of_zero_le hr.1
    exact eend_in l s w hl hb ho (by omega)
set_option maxRecDepth 100000 in
set_option maxHeartbeats 1000000 in
theorem reend_bad (l : List Int) (r : Int) (w : World) (hl : l.length = 256) (hb : Bytes l) (hbad : encOk l r = false) : Calls Try.prog 49 #[.agg (EV l r)] w (ListPost w [] 2) := by
  have CV : Hid (∀ w, Calls Try.prog 52 #[.agg (EV l r)] w fun e w' => (e = .returned (.bool false)) ∧ Below w.heap.size w w') := Lib.hid (fun w => by rw [← hbad]; exact revalid_any l r w hl hb)
  clear hbad
  go_enter Try.func49, Try.ntmps49
  have hm := Own.nil w
  go_wp2_with (first
    | (refine wpList_box_o hm rfl rfl rfl ?_; intro w1 g hm1; clear hm)
    | (refine wpList_load_all rfl rfl rfl (hm1.row 0 rfl) (aggE _ hl) ?_)
    | (go_at_call 52; have _t := hm1; refine (CV.out _).mono ?_; rintro e w3 ⟨rfl, hb3⟩; have hm3 := hm1.call hb3; clear hm1))
  go_ret2
  exact ⟨⟨_, rfl, World.ownsRow_nil _ _ _ _⟩, hm3.below⟩
set_option maxRecDepth 100000 in
set_option maxHeartbeats 1000000 in
theorem reend_in (l : List Int) (r : Nat) (w : World) (hl : l.length = 256) (hb : Bytes l) (hok : encOk l r = true) (hr : r < 2 ^ 31) : Calls Try.prog 49 #[.agg (EV l r)] w (ListPost w (dg r ++ [257]) 0) := by
  have CV : Hid (∀ w, Calls Try.prog 52 #[.agg (EV l r)] w fun e w' => (e = .returned (.bool true)) ∧ Below w.heap.size w w') := Lib.hid (fun w => by rw [← hok]; exact revalid_any l r w hl hb)
  have CD : Hid (∀ w, Calls Try.prog 70 #[.int .i64 (r : Int)] w (RunPost w (dg r))) := Lib.hid (fun w => rrun_any r (by omega) w)
  have hd := len_dg 31 r hr
  obtain ⟨i3, hE⟩ := el39
  have HE := Lib.hid hE
  clear hok hE
  generalize dg r = D at *
  go_enter Try.func49, Try.ntmps49
  have hm := Own.nil w
  go_wp2_with (first
    | (refine wpList_box_o hm rfl rfl rfl ?_; intro w1 g hm1; clear hm)
    | (refine wpList_load_all rfl rfl rfl (hm1.row 0 rfl) (aggE _ hl) ?_)
    | (go_at_call 52; have _t := hm1; refine (CV.out _).mono ?_; rintro e w3 ⟨rfl, hb3⟩; have hm3 := hm1.call hb3; clear hm1)
    | (refine wpList_run rfl (exec_loadcell' rfl rfl (hm3.row 0 rfl) one3 (run_EV _ hl)) ?_)
    | (go_at_call 70; have _t := hm3; refine (CD.out _).mono ?_; rintro e w4 ⟨⟨r4, rfl, ho4⟩, hb4⟩; obtain ⟨a4, c4, rfl⟩ := owns_shape0 ho4; have hm4 := hm3.callSl hb4 (by rw [length_vs]; exact ho4); clear hm3 ho4)
    | (refine wpList_build1_o (v := .int .i64 257) hm4 rfl rfl HE.out rfl rfl ?_; intro w8 g8 hm8; clear hm4)
    | (refine wpList_append_o 0 hm8 rfl rfl HE.out rfl rfl rfl (Src.one (hm8.row 0 rfl)) (one_list _ rfl) (by simp only [length_vs, List.length_cons, List.length_nil]; omega) (by simp only [length_vs, List.length_cons, List.length_nil]; omega) ?_; intro ad9 c9 w9 hm9; simp only [List.set] at hm9; clear hm8))
  go_ret2
  have e : vs .i64 D ++ [Value.int .i64 257] = vs .i64 (D ++ [257]) := by simp [vs]
  have e3 : (vs .i64 D).length + [Value.int .i64 257].length = (D ++ [257]).length := by simp [length_vs]
  rw [e, e3] at hm9
  have hg := hm9.get 0 rfl
  dsimp only at hg
  refine ⟨⟨_, rfl, ?_⟩, hm9.below⟩
  have e4 : (vs .i64 D).length + 1 = (D ++ [257]).length := by simp [length_vs]
  have h := own_len0 hg
  rw [← e4] at h ⊢
  exact h
theorem reend_any (l : List Int) (r : Int) (w : World) (hl : l.length = 256) (hb : Bytes l) : Calls Try.prog 49 #[.agg (EV l r)] w (ListPost w (endO l r) (endE l r)) := by
  rw [endO, endE]
  cases ho : encOk l r with
  | false => exact reend_bad l r w hl hb ho
  | true =>
    have hh := ho
    rw [encOk, Bool.and_eq_true] at hh
    have hr := of_decide_eq_true hh.2
    obtain ⟨s, rfl⟩ := Int.eq_ofNat_of_zero_le hr.1
    exact reend_in l s w hl hb ho (by omega)
set_option maxRecDepth 100000 in
set_option maxHeartbeats 1000000 in
theorem eall_any (b : List Int) (v : Value) (w : World) (hbb : Bytes b) (hv : In .u8 w v b) (hlen : b.length ≤ 1000) : Calls Try.prog 55 #[v] w (RunPost w (allO b)) := by
  have HVI := Lib.hid hv
  have HVL := vl_ego b new 0 [] vl_new
  have hL := HVL.len
  have hlo := len_ego b new 0 [] (by omega)
  have hsr := run_ego b new 0 []
  have hlr := len_dg 31 (ego b new 0 []).2.1 (by omega)
  have CS : Hid (∀ wz, Below w.heap.size w wz → Calls Try.prog 46 #[.agg (EV new 0), v] wz (StepPost wz (ego b new 0 []).1 (ego b new 0 []).2.1 (ego b new 0 []).2.2 0)) := Lib.hid (fun wz hb => estep_in new b 0 v wz vl_new hbb (HVI.out.below hb) hlen (by omega))
  have CE : Hid (∀ w, Calls Try.prog 48 #[.agg (EV (ego b new 0 []).1 (ego b new 0 []).2.1)] w (ListPost w (dg (ego b new 0 []).2.1 ++ [257]) 0)) := Lib.hid (fun w => eend_in _ _ w hL HVL.bytes (by rw [encOk, (vl_iff hL HVL.bytes).2 HVL, decide_eq_true ⟨by omega, by omega⟩]; rfl) (by omega))
  obtain ⟨ad, cp, rfl, _⟩ := hv
  obtain ⟨i3, hE⟩ := el39
  have HE := Lib.hid hE
  have HA : Hid (allO b = (ego b new 0 []).2.2 ++ (dg (ego b new 0 []).2.1 ++ [257])) := rfl
  clear hE HVL hsr
  generalize (ego b new 0 []).1 = L at *
  generalize (ego b new 0 []).2.2 = O at *
  generalize (ego b new 0 []).2.1 = s at *
  have hol : O.length ≤ 32000 := by rw [List.length_nil] at hlo; omega
  clear hlo
  have hld : (dg s ++ [257]).length ≤ 32 := by rw [List.length_append]; simp only [List.length_cons, List.length_nil]; omega
  generalize dg s ++ [257] = D at *
  go_enter Try.func55, Try.ntmps55
  have hm := Own.nil w
  go_wp2_with (first
    | (go_at_call 53; have _t := hm; refine (enew_any _).mono ?_; rintro e w1 ⟨rfl, hb1⟩; have hm1 := hm.call hb1; clear hm)
    | (go_at_call 46; have _t := hm1; refine (CS.out _ hm1.below).mono ?_; rintro e w2 ⟨⟨r2, rfl, ho2⟩, hb2⟩; obtain ⟨a2, c2, rfl⟩ := owns_shape0 ho2; have hm2 := hm1.callSl hb2 (by rw [length_vs]; exact ho2); clear hm1 ho2)
    | (refine wpList_alloc_o hm2 rfl rfl zero57 ?_; intro w3 g3 hm3; clear hm2)
    | (refine wpList_store_o 0 hm3 rfl rfl rfl rfl rfl (aggE _ hL) (size_EE _ _ hL len_zeros) (EV_one _ _) ?_; intro w4 hm4; simp only [List.set] at hm4; clear hm3)
    | (refine wpList_load_all rfl rfl rfl (hm4.row 0 rfl) (aggE _ hL) ?_)
    | (go_at_call 48; have _t := hm4; refine (CE.out _).mono ?_; rintro e w5 ⟨⟨r5, rfl, ho5⟩, hb5⟩; obtain ⟨a5, c5, rfl⟩ := owns_shape0 ho5; have hm5 := hm4.callSl hb5 (by rw [length_vs]; exact ho5); clear hm4 ho5)
    | (refine wpList_append_o 1 hm5 rfl rfl HE.out rfl rfl rfl (Src.of_owned (hm5.get 0 rfl)) (vs_one _ _) (by simp only [length_vs]; omega) (by simp only [length_vs]; omega) ?_; intro ad6 c6 w6 hm6; simp only [List.set] at hm6; clear hm5))
  go_ret
  have e3 : (vs .i64 O).length + (vs .i64 D).length = (O ++ D).length := by simp [length_vs]
  rw [← vs_append, e3] at hm6
  have hg := hm6.get 1 rfl
  dsimp only at hg
  have h := own_len0 hg
  refine ⟨⟨_, rfl, ?_⟩, hm6.below⟩
  rw [HA.out]
  rw [← e3] at h ⊢
  exact h
set_option maxRecDepth 100000 in
set_option maxHeartbeats 1000000 in
theorem reall_any (b : List Int) (v : Value) (w : World) (hbb : Bytes b) (hv : In .u8 w v b) (hlen : b.length ≤ 1000) : Calls Try.prog 56 #[v] w (RunPost w (allO b)) := by
  have HVI := Lib.hid hv
  have HVL := vl_ego b new 0 [] vl_new
  have hL := HVL.len
  have hlo := len_ego b new 0 [] (by omega)
  have hsr := run_ego b new 0 []
  have hlr := len_dg 31 (ego b new 0 []).2.1 (by omega)
  have CS : Hid (∀ wz, Below w.heap.size w wz → Calls Try.prog 47 #[.agg (EV new 0), v] wz (StepPost wz (ego b new 0 []).1 (ego b new 0 []).2.1 (ego b new 0 []).2.2 0)) := Lib.hid (fun wz hb => restep_in new b 0 v wz vl_new hbb (HVI.out.below hb) hlen (by omega))
  have CE : Hid (∀ w, Calls Try.prog 49 #[.agg (EV (ego b new 0 []).1 (ego b new 0 []).2.1)] w (ListPost w (dg (ego b new 0 []).2.1 ++ [257]) 0)) := Lib.hid (fun w => reend_in _ _ w hL HVL.bytes (by rw [encOk, (vl_iff hL HVL.bytes).2 HVL, decide_eq_true ⟨by omega, by omega⟩]; rfl) (by omega))
  obtain ⟨ad, cp, rfl, _⟩ := hv
  obtain ⟨i3, hE⟩ := el39
  have HE := Lib.hid hE
  have HA : Hid (allO b = (ego b new 0 []).2.2 ++ (dg (ego b new 0 []).2.1 ++ [257])) := rfl
  clear hE HVL hsr
  generalize (ego b new 0 []).1 = L at *
  generalize (ego b new 0 []).2.2 = O at *
  generalize (ego b new 0 []).2.1 = s at *
  have hol : O.length ≤ 32000 := by rw [List.length_nil] at hlo; omega
  clear hlo
  have hld : (dg s ++ [257]).length ≤ 32 := by rw [List.length_append]; simp only [List.length_cons, List.length_nil]; omega
  generalize dg s ++ [257] = D at *
  go_enter Try.func56, Try.ntmps56
  have hm := Own.nil w
  go_wp2_with (first
    | (go_at_call 54; have _t := hm; refine (renew_any _).mono ?_; rintro e w1 ⟨rfl, hb1⟩; have hm1 := hm.call hb1; clear hm)
    | (go_at_call 47; have _t := hm1; refine (CS.out _ hm1.below).mono ?_; rintro e w2 ⟨⟨r2, rfl, ho2⟩, hb2⟩; obtain ⟨a2, c2, rfl⟩ := owns_shape0 ho2; have hm2 := hm1.callSl hb2 (by rw [length_vs]; exact ho2); clear hm1 ho2)
    | (refine wpList_alloc_o hm2 rfl rfl zero57 ?_; intro w3 g3 hm3; clear hm2)
    | (refine wpList_store_o 0 hm3 rfl rfl rfl rfl rfl (aggE _ hL) (size_EE _ _ hL len_zeros) (EV_one _ _) ?_; intro w4 hm4; simp only [List.set] at hm4; clear hm3)
    | (refine wpList_load_all rfl rfl rfl (hm4.row 0 rfl) (aggE _ hL) ?_)
    | (go_at_call 49; have _t := hm4; refine (CE.out _).mono ?_; rintro e w5 ⟨⟨r5, rfl, ho5⟩, hb5⟩; obtain ⟨a5, c5, rfl⟩ := owns_shape0 ho5; have hm5 := hm4.callSl hb5 (by rw [length_vs]; exact ho5); clear hm4 ho5)
    | (refine wpList_append_o 1 hm5 rfl rfl HE.out rfl rfl rfl (Src.of_owned (hm5.get 0 rfl)) (vs_one _ _) (by simp only [length_vs]; omega) (by simp only [length_vs]; omega) ?_; intro ad6 c6 w6 hm6; simp only [List.set] at hm6; clear hm5))
  go_ret
  have e3 : (vs .i64 O).length + (vs .i64 D).length = (O ++ D).length := by simp [length_vs]
  rw [← vs_append, e3] at hm6
  have hg := hm6.get 1 rfl
  dsimp only at hg
  have h := own_len0 hg
  refine ⟨⟨_, rfl, ?_⟩, hm6.below⟩
  rw [HA.out]
  rw [← e3] at h ⊢
  exact h
end Go.Proofs.Ytaccjnekonmkoaa
