/-
  The walk of the law SymDecForth (winepresslaw16): it returns true.
-/
import Derived.Test.YtaccjnekonmkoaaSdP
import Derived.Test.YtaccjnekonmkoaaSdW
import Derived.Test.YtaccjnekonmkoaaSdI
namespace Go.Proofs.Ytaccjnekonmkoaa
open Go Go.RowKit

theorem sdo_neqstr {o : Oper} {a : Act} {w : World} {t t' : TypeId} {x y : Operand} (ho : o.op = .binOp .neq t x y t') {p q : ByteArray} (hx : a.eval x = .string p) (hy : a.eval y = .string q) {b : Bool} (hb : (!(p.toList == q.toList)) = b) :
    (execOp a.eval o).run Try.prog w = .ok (.value (.bool b)) w := by
  subst hb
  unfold execOp
  simp only [ho, hx, hy, eqGuard_at_string, Sem.run_bind, Sem.run_pure, Result.andThen_ok]
  simp [binOp, Op.stringOp, Result.andThen]
theorem sdo_tostr_in {w : World} {o : Oper} {a : Act} {x : Operand} (ho : o.op = .convert 24 9 x) {l : List Int} {v : Value} (hx : a.eval x = v) (hv : In .u8 w v l) : (execOp a.eval o).run Try.prog w = .ok (.value (.string (str l))) w := by
  obtain ⟨ad, c, rfl, hc⟩ := hv
  refine exec_tostr ho Try.underlying24 Try.underlying5 Try.underlying9 hx (fun h => ?_) (fun A h j u hj => ?_)
  · cases l with
    | nil => rfl
    | cons y l =>
      obtain ⟨A, hA, _⟩ := hc 0 (by simp)
      rw [h] at hA
      cases hA
  · have hjl : j < l.length := by
      have := (List.getElem?_eq_some_iff.1 hj).1
      rwa [length_vs] at this
    obtain ⟨A', e, hA⟩ := hc j hjl
    rw [h] at e
    cases e
    rw [hA, ← hj]
    simp [vs, gi, List.getD_eq_getElem?_getD, List.getElem?_eq_getElem hjl]
theorem sdo_newSl {w0 w : World} {rs : List (Nat × Array Value)} {ss : List Sl} (h : Own w0 w rs ss) (cs : Array Value) (e : TypeId) (hc : cs.size ≤ maxLen) : Own w0 (w.alloc (.cells cs e)) rs ((.slice (some ⟨w.heap.size, 0, none⟩) cs.size cs.size, e, cs.toList) :: ss) := by
  refine h.callSl ((Below.refl _ _).alloc (Nat.le_refl _) _) ?_
  refine ⟨by simp, .inr ⟨w.heap.size, cs.size, cs, by simp, Nat.le_refl _, heap_alloc_new w _, by simp, hc, by simp, by rw [Nat.mul_one]; exact List.take_of_length_le (by simp)⟩⟩
theorem sdo_len {t : List Int} : (allO t).length ≤ t.length + 1 := by
  rw [allO_enc, List.length_append, List.length_singleton]
  have := len_enc (forth t) 0
  rw [forth, len_plc] at this
  rw [forth]
  omega
theorem Src.shape_i {w : World} {k : IntKind} {v : Value} {l : List Int} (h : Src w v (vs k l)) : ∃ a c, v = .slice a l.length c := by
  rcases h with ⟨rfl, h0⟩ | ⟨ad, c, rfl, _⟩
  · have := congrArg List.length h0
    rw [length_vs] at this
    exact ⟨none, 0, by rw [this]; rfl⟩
  · exact ⟨some ad, c, by rw [length_vs]⟩
set_option maxRecDepth 100000 in
set_option maxHeartbeats 1000000 in
theorem sdo_w1 (v u : Value) (t z : List Int) (other : Int) (w : World) (hv : In .u8 w v t) (hu : Src w u (vs .i64 z)) (p1 : t.length = 0) : Calls Try.prog 17 #[v, u, .int .i64 other] w fun e w' => e = .returned (.bool true) ∧ Below w.heap.size w w' := by
  obtain ⟨ad, cp, rfl, hc⟩ := hv
  obtain ⟨au, cu, rfl⟩ := hu.shape_i
  have HV : Hid (In .u8 w (.slice ad t.length cp) t) := Lib.hid ⟨ad, cp, rfl, hc⟩
  have HU := Lib.hid hu
  clear hc hu
  generalize hm0 : t.length = m at *
  generalize hk0 : z.length = k at *
  clear hm0 hk0 HV HU
  subst p1
  go_enter Try.func17, Try.ntmps17
  have hm := Own.nil w
  go_wp2_with (first
    | (go_at_call 57; have _t := hm; refine (wakes16 _).mono ?_; rintro x w2 ⟨rfl, hb2⟩; have hm2 := hm.call hb2; clear hm))
  go_ret
  exact ⟨rfl, hm2.below⟩
set_option maxRecDepth 100000 in
set_option maxHeartbeats 1000000 in
theorem sdo_w2 (v u : Value) (t z : List Int) (other : Int) (w : World) (hv : In .u8 w v t) (hu : Src w u (vs .i64 z)) (p1 : ¬ t.length = 0) (p2 : 300 < t.length) : Calls Try.prog 17 #[v, u, .int .i64 other] w fun e w' => e = .returned (.bool true) ∧ Below w.heap.size w w' := by
  obtain ⟨ad, cp, rfl, hc⟩ := hv
  obtain ⟨au, cu, rfl⟩ := hu.shape_i
  have HV : Hid (In .u8 w (.slice ad t.length cp) t) := Lib.hid ⟨ad, cp, rfl, hc⟩
  have HU := Lib.hid hu
  clear hc hu
  generalize hm0 : t.length = m at *
  generalize hk0 : z.length = k at *
  clear hm0 hk0 HV HU
  have q1 : ((m : Int) == 0) = false := by simpa using p1
  have q1' : (m == 0) = false := by simpa using p1
  have q2 : decide ((300 : Int) < m) = true := decide_eq_true (by omega)
  go_enter Try.func17, Try.ntmps17
  have hm := Own.nil w
  go_wp2_with (first
    | (go_at_call 57; have _t := hm; refine (wakes16 _).mono ?_; rintro x w2 ⟨rfl, hb2⟩; have hm2 := hm.call hb2; clear hm))
  go_ret
  exact ⟨rfl, hm2.below⟩
set_option maxRecDepth 100000 in
set_option maxHeartbeats 1000000 in
theorem sdo_w3 (v u : Value) (t z : List Int) (other : Int) (w : World) (hv : In .u8 w v t) (hu : Src w u (vs .i64 z)) (p1 : ¬ t.length = 0) (p2 : ¬ 300 < t.length) (p3 : 30 < z.length) : Calls Try.prog 17 #[v, u, .int .i64 other] w fun e w' => e = .returned (.bool true) ∧ Below w.heap.size w w' := by
  obtain ⟨ad, cp, rfl, hc⟩ := hv
  obtain ⟨au, cu, rfl⟩ := hu.shape_i
  have HV : Hid (In .u8 w (.slice ad t.length cp) t) := Lib.hid ⟨ad, cp, rfl, hc⟩
  have HU := Lib.hid hu
  clear hc hu
  generalize hm0 : t.length = m at *
  generalize hk0 : z.length = k at *
  clear hm0 hk0 HV HU
  have q1 : ((m : Int) == 0) = false := by simpa using p1
  have q1' : (m == 0) = false := by simpa using p1
  have q2 : decide ((300 : Int) < m) = false := decide_eq_false (by omega)
  have q3 : decide ((30 : Int) < k) = true := decide_eq_true (by omega)
  go_enter Try.func17, Try.ntmps17
  have hm := Own.nil w
  go_wp2_with (first
    | (go_at_call 57; have _t := hm; refine (wakes16 _).mono ?_; rintro x w2 ⟨rfl, hb2⟩; have hm2 := hm.call hb2; clear hm))
  go_ret
  exact ⟨rfl, hm2.below⟩
set_option maxRecDepth 100000 in
set_option maxHeartbeats 8000000 in
theorem sdo_in (v u : Value) (t z : List Int) (other : Int) (w : World) (hb : Bytes t) (hv : In .u8 w v t) (hu : Src w u (vs .i64 z)) (p1 : ¬ t.length = 0) (p2 : ¬ 300 < t.length) (p3 : ¬ 30 < z.length) : Calls Try.prog 17 #[v, u, .int .i64 other] w fun e w' => e = .returned (.bool true) ∧ Below w.heap.size w w' := by
  have hlE : (allO t).length ≤ 301 := by have := @sdo_len t; omega
  have CE : Hid (∀ w v, In .u8 w v t → Calls Try.prog 56 #[v] w (RunPost w (allO t))) := Lib.hid fun w v hv => reall_any t v w hb hv (by omega)
  have CA : Hid (∀ w v, In .i64 w v (allO t ++ z) → Calls Try.prog 64 #[.int .i64 t.length, v] w (TPost w (t, (allO t).length, 0))) := Lib.hid fun w v hv => by
    have h := dall_any t.length (allO t ++ z) v w hv (by rw [List.length_append]; omega)
    rwa [forth_law hb, if_pos (by omega), if_pos rfl] at h
  have CB : Hid (∀ w v, In .i64 w v (allO t) → Calls Try.prog 64 #[.int .i64 other, v] w (TPost w (dAll other (allO t)))) := Lib.hid fun w v hv => dall_any other (allO t) v w hv (by omega)
  have hz : (dAll other (allO t)).2.2 = if 1 ≤ other ∧ other ≤ 65536 then (if other = t.length then 0 else 160) else 2 := by
    have h := forth_law hb other []
    rw [List.append_nil] at h
    rw [h]
    split
    · split <;> rfl
    · rfl
  generalize dAll other (allO t) = R at *
  obtain ⟨x9, n9, z9⟩ := R
  dsimp only at hz
  have HZ := Lib.hid hz
  generalize allO t = E at *
  obtain ⟨i3, hE⟩ := el39
  have HE := Lib.hid hE
  clear hE hz
  obtain ⟨ad, cp, rfl, hc⟩ := hv
  obtain ⟨au, cu, rfl⟩ := hu.shape_i
  have HV : Hid (In .u8 w (.slice ad t.length cp) t) := Lib.hid ⟨ad, cp, rfl, hc⟩
  have HU := Lib.hid hu
  clear hc hu
  generalize hm0 : t.length = m at *
  generalize hk0 : z.length = k at *
  have q1 : ((m : Int) == 0) = false := by simpa using p1
  have q1' : (m == 0) = false := by simpa using p1
  have q2 : decide ((300 : Int) < m) = false := decide_eq_false (by omega)
  have q3 : decide ((30 : Int) < k) = false := decide_eq_false (by omega)
  have HK := Lib.hid hk0
  clear hm0 hk0
  go_enter Try.func17, Try.ntmps17
  have hm := Own.nil w
  go_upto_region 8 with (first
    | (go_at_call 56; have _t := hm; refine (CE.out _ _ (HV.out.below hm.below)).mono ?_; rintro x w2 ⟨⟨r2, rfl, hq2⟩, hb2⟩; obtain ⟨a2, c2, rfl⟩ := owns_shape0 hq2; have hm2 := hm.callSl hb2 (by rw [length_vs]; exact hq2); clear hm hq2)
    | (have _t := hm2; have hm3 := sdo_newSl hm2 #[] 3 (by simp); refine wpList_append_o 0 hm3 rfl rfl HE.out rfl rfl rfl (Src.of_owned (hm3.get 1 rfl)) (vs_one _ _) (by simp only [length_vs, List.length_nil]; omega) (by simp only [length_vs, List.length_nil]; omega) ?_; intro ad4 c4 w4 hm4; simp only [List.set, List.nil_append, List.length_nil, Nat.zero_add] at hm4; clear hm2 hm3)
    | (have _t := hm4; refine wpList_append_o 0 hm4 rfl rfl HE.out rfl rfl rfl (HU.out.below hm4.below) (vs_one _ _) (by simp only [length_vs, HK.out]; omega) (by simp only [length_vs, HK.out]; omega) ?_; intro ad5 c5 w5 hm5; simp only [List.set] at hm5; clear hm4)
    | (go_at_call 64; have _t := hm5; refine (CA.out _ _ (src_in (by rw [vs_append]; exact Src.of_owned (hm5.get 0 rfl)))).mono ?_; rintro x w6 ⟨⟨r6, rfl, hq6⟩, hb6⟩; obtain ⟨a6, c6, rfl⟩ := owns_shape0 hq6; have hm6 := hm5.callSl hb6 (by rw [length_vs]; exact hq6); clear hm5 hq6)
    | (refine wpList_run rfl (exec_tostr_s (v := .slice a6 t.length c6) (l := t) rfl rfl (Src.of_owned (hm6.get 0 rfl))) ?_)
    | (refine wpList_run rfl (sdo_tostr_in (v := .slice ad m cp) (l := t) rfl rfl (HV.out.below hm6.below)) ?_)
    | (refine wpList_run rfl (sdo_neqstr rfl rfl rfl (b := false) (by simp)) ?_)
    | (go_at_call 64; have _t := hm6; refine (CB.out _ _ (src_in (Src.of_owned (hm6.get 2 rfl)))).mono ?_; rintro x w7 ⟨⟨r7, rfl, hq7⟩, hb7⟩; obtain ⟨a7, c7, rfl⟩ := owns_shape0 hq7; have hm7 := hm6.call hb7; clear hm6 hq7))
  have hz := HZ.out
  clear HZ CE CA CB HV HU
  by_cases s1 : other = m
  · subst s1
    rw [if_pos (by omega), if_pos rfl] at hz
    subst hz
    go_wp2_with (first
      | (go_at_call 57; have _t := hm7; refine (wakes16 _).mono ?_; rintro x w8 ⟨rfl, hb8⟩; have hm8 := hm7.call hb8; clear hm7))
    go_ret
    exact ⟨rfl, hm8.below⟩
  have q4 : (other == (m : Int)) = false := by simpa using s1
  by_cases s2 : other < 1
  · rw [if_neg (by omega)] at hz
    subst hz
    have q5 : decide (other < 1) = true := decide_eq_true s2
    go_wp2_with (first
      | (go_at_call 57; have _t := hm7; refine (wakes16 _).mono ?_; rintro x w8 ⟨rfl, hb8⟩; have hm8 := hm7.call hb8; clear hm7))
    go_ret
    exact ⟨rfl, hm8.below⟩
  have q5 : decide (other < 1) = false := decide_eq_false s2
  by_cases s3 : 65536 < other
  · rw [if_neg (by omega)] at hz
    subst hz
    have q6 : decide (65536 < other) = true := decide_eq_true s3
    go_wp2_with (first
      | (go_at_call 57; have _t := hm7; refine (wakes16 _).mono ?_; rintro x w8 ⟨rfl, hb8⟩; have hm8 := hm7.call hb8; clear hm7))
    go_ret
    exact ⟨rfl, hm8.below⟩
  have q6 : decide (65536 < other) = false := decide_eq_false s3
  rw [if_pos (by omega), if_neg s1] at hz
  subst hz
  go_wp2_with (first
    | (go_at_call 57; have _t := hm7; refine (wakes16 _).mono ?_; rintro x w8 ⟨rfl, hb8⟩; have hm8 := hm7.call hb8; clear hm7))
  go_ret
  exact ⟨rfl, hm8.below⟩
theorem sdo16 (v u : Value) (t z : List Int) (other : Int) (w : World) (hb : Bytes t) (hv : In .u8 w v t) (hu : Src w u (vs .i64 z)) : Calls Try.prog 17 #[v, u, .int .i64 other] w fun e w' => e = .returned (.bool true) ∧ Below w.heap.size w w' := by
  by_cases p1 : t.length = 0
  · exact sdo_w1 v u t z other w hv hu p1
  by_cases p2 : 300 < t.length
  · exact sdo_w2 v u t z other w hv hu p1 p2
  by_cases p3 : 30 < z.length
  · exact sdo_w3 v u t z other w hv hu p1 p2 p3
  exact sdo_in v u t z other w hb hv hu p1 p2 p3
end Go.Proofs.Ytaccjnekonmkoaa
