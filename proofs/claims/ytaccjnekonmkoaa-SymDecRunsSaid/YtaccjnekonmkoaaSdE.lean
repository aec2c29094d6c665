/-
  The walk of the reference winepressref16.Valid, where it comes to its end.
-/
import Derived.Test.YtaccjnekonmkoaaSdD
import Derived.Test.YtaccjnekonmkoaaRep
namespace Go.Proofs.Ytaccjnekonmkoaa
open Go Go.RowKit

/-- A list of steps, hidden from whnf. -/
structure WL (P : Program) (ops : Array Oper) (Q : Exit → Act → World → Prop) (l : List Oper) (a : Act) (w : World) : Prop where
  out : wpList P ops Q l a w
section
variable {P : Program} {ops : Array Oper} {rest : List Oper} {o : Oper} {a : Act} {w : World} {Q : Exit → Act → World → Prop} {v : Value}
theorem WL.val (hg : Region.wanted o (yielded ops a.tmps) = true) (hrun : (execOp a.eval o).run P w = .ok (.value v) w) (h : WL P ops Q rest (a.put o.dst v) w) : WL P ops Q (o :: rest) a w := ⟨wpList_run hg hrun h.out⟩
theorem WL.run {w' : World} (hg : Region.wanted o (yielded ops a.tmps) = true) (hrun : (execOp a.eval o).run P w = .ok (.value v) w') (h : WL P ops Q rest (a.put o.dst v) w') : WL P ops Q (o :: rest) a w := ⟨wpList_run hg hrun h.out⟩
theorem WL.pass (hg : Region.wanted o (yielded ops a.tmps) = false) (h : WL P ops Q rest (a.put o.dst undef) w) : WL P ops Q (o :: rest) a w := ⟨wpList_pass hg h.out⟩
end
set_option maxRecDepth 100000 in
set_option maxHeartbeats 4000000 in
theorem rdv_len (b : DS) (w : World) (hl : b.l.length = 256) (CV : Hid (∀ w, Calls Try.prog 26 #[.agg (B b.l)] w fun e w' => (e = .returned (.bool true)) ∧ Below w.heap.size w w')) (h1 : ¬ b.left < 0) (h2 : ¬ 65536 < b.left) (h3 : ¬ b.run < 0) (h4 : ¬ b.left < b.run) (h5 : ¬ b.dig < 0) (h6 : ¬ 16 < b.dig) (h7 : ¬ ((dg b.run.toNat).length : Int) = b.dig) : Calls Try.prog 61 #[.agg (V b)] w fun e w' => (e = .returned (.bool false)) ∧ Below w.heap.size w w' := by
  have q1 : decide (b.left < 0) = false := decide_eq_false h1
  have q2 : decide (65536 < b.left) = false := decide_eq_false h2
  have q3 : decide (b.run < 0) = false := decide_eq_false h3
  have q4 : decide (b.left < b.run) = false := decide_eq_false h4
  have q5 : decide (b.dig < 0) = false := decide_eq_false h5
  have q6 : decide (16 < b.dig) = false := decide_eq_false h6
  have CD : Hid (∀ w, Calls Try.prog 35 #[.int .i64 b.run] w (ListPost w (dg b.run.toNat) 0)) := Lib.hid (fun w => by
    obtain ⟨k, hk⟩ := Int.eq_ofNat_of_zero_le (show 0 ≤ b.run by omega)
    have h := rdigits_in k (by omega) w
    rw [hk, Int.toNat_natCast]
    exact h)
  generalize dg b.run.toNat = D at *
  have q7 : ((D.length : Int) == b.dig) = false := by simpa using h7
  have q8 : ((D.length : Int) != b.dig) = true := by simpa using h7
  go_enter Try.func61, Try.ntmps61
  have hm := Own.nil w
  go_upto_region 4 with (first
    | (refine wpList_box_o hm rfl rfl rfl ?_; intro w1 g hm1; clear hm)
    | (refine wpList_load_part rfl rfl rfl (hm1.row 0 rfl) (aggB _ hl) (extract_V hl) (fitV hl) ?_)
    | (go_at_call 26; have _t := hm1; refine (CV.out _).mono ?_; rintro e w2 ⟨rfl, hb2⟩; have hm2 := hm1.call hb2; clear hm1)
    | (refine wpList_run rfl (exec_loadcell' (off := 256) rfl rfl (hm2.row 0 rfl) one3 (getV1 hl)) ?_)
    | (refine wpList_run rfl (exec_loadcell' (off := 257) rfl rfl (hm2.row 0 rfl) one3 (getV2 hl)) ?_)
    | (refine wpList_run rfl (exec_loadcell' (off := 258) rfl rfl (hm2.row 0 rfl) one3 (getV3 hl)) ?_)
    | (refine wpList_run rfl (exec_loadcell' (off := 259) rfl rfl (hm2.row 0 rfl) one4 (getV4 hl)) ?_)
    | (go_at_call 35; have _t := hm2; refine (CD.out _).mono ?_; rintro e w3 ⟨⟨r3, rfl, hq3⟩, hb3⟩; obtain ⟨a3, c3, rfl⟩ := owns_shape0 hq3; have hm3 := hm2.call hb3; clear hm2 hq3))
  apply wp_region_lit
  refine wpList_val' rfl (by go_simp; rfl) ?_
  try simp only [Act.put, List.setIfInBounds_toArray, List.set_cons_zero, List.set_cons_succ]
  refine wpList_val' rfl (by go_simp; rfl) ?_
  try simp only [Act.put, List.setIfInBounds_toArray, List.set_cons_zero, List.set_cons_succ]
  refine wpList_val' rfl (by go_simp; rfl) ?_
  try simp only [Act.put, List.setIfInBounds_toArray, List.set_cons_zero, List.set_cons_succ]
  refine wpList_run rfl (exec_loadcell' (off := 258) rfl rfl (hm3.row 0 rfl) one3 (getV3 hl)) ?_
  try simp only [Act.put, List.setIfInBounds_toArray, List.set_cons_zero, List.set_cons_succ]
  refine wpList_val' rfl (by go_simp; rfl) ?_
  try simp only [Act.put, List.setIfInBounds_toArray, List.set_cons_zero, List.set_cons_succ]
  refine wpList_nil ?_
  go_simp
  go_wp2
  go_ret
  exact ⟨rfl, hm3.below⟩
set_option maxRecDepth 100000 in
set_option maxHeartbeats 8000000 in
theorem rdv_end (b : DS) (w : World) (hl : b.l.length = 256) (CV : Hid (∀ w, Calls Try.prog 26 #[.agg (B b.l)] w fun e w' => (e = .returned (.bool true)) ∧ Below w.heap.size w w')) (h1 : ¬ b.left < 0) (h2 : ¬ 65536 < b.left) (h3 : ¬ b.run < 0) (h4 : ¬ b.left < b.run) (h5 : ¬ b.dig < 0) (h6 : ¬ 16 < b.dig) (h7 : ((dg b.run.toNat).length : Int) = b.dig) : Calls Try.prog 61 #[.agg (V b)] w fun e w' => (e = .returned (.bool (!b.fin || decide (b.left = 0 ∧ b.run = 0 ∧ b.dig = 0)))) ∧ Below w.heap.size w w' := by
  have q1 : decide (b.left < 0) = false := decide_eq_false h1
  have q2 : decide (65536 < b.left) = false := decide_eq_false h2
  have q3 : decide (b.run < 0) = false := decide_eq_false h3
  have q4 : decide (b.left < b.run) = false := decide_eq_false h4
  have q5 : decide (b.dig < 0) = false := decide_eq_false h5
  have q6 : decide (16 < b.dig) = false := decide_eq_false h6
  have CD : Hid (∀ w, Calls Try.prog 35 #[.int .i64 b.run] w (ListPost w (dg b.run.toNat) 0)) := Lib.hid (fun w => by
    obtain ⟨k, hk⟩ := Int.eq_ofNat_of_zero_le (show 0 ≤ b.run by omega)
    have h := rdigits_in k (by omega) w
    rw [hk, Int.toNat_natCast]
    exact h)
  generalize dg b.run.toNat = D at *
  have q7 : ((D.length : Int) == b.dig) = true := by simpa using h7
  have q8 : ((D.length : Int) != b.dig) = false := by simpa using h7
  have HH7 := Lib.hid h7
  clear h7
  generalize hres : (!b.fin || decide (b.left = 0 ∧ b.run = 0 ∧ b.dig = 0)) = res
  have HRES := Lib.hid hres
  clear hres
  go_enter Try.func61, Try.ntmps61
  have hm := Own.nil w
  go_upto_region 4 with (first
    | (refine wpList_box_o hm rfl rfl rfl ?_; intro w1 g hm1; clear hm)
    | (refine wpList_load_part rfl rfl rfl (hm1.row 0 rfl) (aggB _ hl) (extract_V hl) (fitV hl) ?_)
    | (go_at_call 26; have _t := hm1; refine (CV.out _).mono ?_; rintro e w2 ⟨rfl, hb2⟩; have hm2 := hm1.call hb2; clear hm1)
    | (refine wpList_run rfl (exec_loadcell' (off := 256) rfl rfl (hm2.row 0 rfl) one3 (getV1 hl)) ?_)
    | (refine wpList_run rfl (exec_loadcell' (off := 257) rfl rfl (hm2.row 0 rfl) one3 (getV2 hl)) ?_)
    | (refine wpList_run rfl (exec_loadcell' (off := 258) rfl rfl (hm2.row 0 rfl) one3 (getV3 hl)) ?_)
    | (refine wpList_run rfl (exec_loadcell' (off := 259) rfl rfl (hm2.row 0 rfl) one4 (getV4 hl)) ?_)
    | (go_at_call 35; have _t := hm2; refine (CD.out _).mono ?_; rintro e w3 ⟨⟨r3, rfl, hq3⟩, hb3⟩; obtain ⟨a3, c3, rfl⟩ := owns_shape0 hq3; have hm3 := hm2.call hb3; clear hm2 hq3))
  apply wp_region_lit
  refine wpList_val' rfl (by go_simp; rfl) ?_
  try simp only [Act.put, List.setIfInBounds_toArray, List.set_cons_zero, List.set_cons_succ]
  refine wpList_val' rfl (by go_simp; rfl) ?_
  try simp only [Act.put, List.setIfInBounds_toArray, List.set_cons_zero, List.set_cons_succ]
  refine wpList_val' rfl (by go_simp; rfl) ?_
  try simp only [Act.put, List.setIfInBounds_toArray, List.set_cons_zero, List.set_cons_succ]
  refine wpList_run rfl (exec_loadcell' (off := 258) rfl rfl (hm3.row 0 rfl) one3 (getV3 hl)) ?_
  try simp only [Act.put, List.setIfInBounds_toArray, List.set_cons_zero, List.set_cons_succ]
  refine wpList_val' rfl (by go_simp; rfl) ?_
  try simp only [Act.put, List.setIfInBounds_toArray, List.set_cons_zero, List.set_cons_succ]
  refine wpList_nil ?_
  go_simp
  go_upto_region 6 with fail
  apply wp_region_lit
  have hF4 := getV4 hl
  have hR := HRES.out
  clear HRES
  by_cases hf : b.fin = false
  · rw [hf] at hF4 hR
    subst hR
    have F4 : (V b)[259]? = some (.bool false) := hF4
    refine WL.out ?_
    refine WL.val rfl (by go_simp; rfl) ?_
    try simp only [Act.put, List.setIfInBounds_toArray, List.set_cons_zero, List.set_cons_succ]
    refine WL.run rfl (exec_loadcell' (off := 259) rfl rfl (hm3.row 0 rfl) one4 F4) ?_
    try simp only [Act.put, List.setIfInBounds_toArray, List.set_cons_zero, List.set_cons_succ]
    refine WL.val rfl (by go_simp; rfl) ?_
    try simp only [Act.put, List.setIfInBounds_toArray, List.set_cons_zero, List.set_cons_succ]
    refine WL.val rfl (by go_simp; rfl) ?_
    try simp only [Act.put, List.setIfInBounds_toArray, List.set_cons_zero, List.set_cons_succ]
    refine WL.pass rfl ?_
    try simp only [Act.put, List.setIfInBounds_toArray, List.set_cons_zero, List.set_cons_succ]
    refine WL.pass rfl ?_
    try simp only [Act.put, List.setIfInBounds_toArray, List.set_cons_zero, List.set_cons_succ]
    refine WL.pass rfl ?_
    try simp only [Act.put, List.setIfInBounds_toArray, List.set_cons_zero, List.set_cons_succ]
    refine WL.pass rfl ?_
    try simp only [Act.put, List.setIfInBounds_toArray, List.set_cons_zero, List.set_cons_succ]
    refine WL.pass rfl ?_
    try simp only [Act.put, List.setIfInBounds_toArray, List.set_cons_zero, List.set_cons_succ]
    refine WL.pass rfl ?_
    try simp only [Act.put, List.setIfInBounds_toArray, List.set_cons_zero, List.set_cons_succ]
    refine WL.pass rfl ?_
    try simp only [Act.put, List.setIfInBounds_toArray, List.set_cons_zero, List.set_cons_succ]
    refine WL.pass rfl ?_
    try simp only [Act.put, List.setIfInBounds_toArray, List.set_cons_zero, List.set_cons_succ]
    refine WL.pass rfl ?_
    try simp only [Act.put, List.setIfInBounds_toArray, List.set_cons_zero, List.set_cons_succ]
    refine WL.pass rfl ?_
    try simp only [Act.put, List.setIfInBounds_toArray, List.set_cons_zero, List.set_cons_succ]
    refine WL.pass rfl ?_
    try simp only [Act.put, List.setIfInBounds_toArray, List.set_cons_zero, List.set_cons_succ]
    refine WL.pass rfl ?_
    try simp only [Act.put, List.setIfInBounds_toArray, List.set_cons_zero, List.set_cons_succ]
    refine WL.pass rfl ?_
    try simp only [Act.put, List.setIfInBounds_toArray, List.set_cons_zero, List.set_cons_succ]
    refine WL.val rfl (by go_simp; rfl) ?_
    try simp only [Act.put, List.setIfInBounds_toArray, List.set_cons_zero, List.set_cons_succ]
    refine WL.val rfl (by go_simp; rfl) ?_
    try simp only [Act.put, List.setIfInBounds_toArray, List.set_cons_zero, List.set_cons_succ]
    refine WL.mk ?_
    refine wpList_nil ?_
    go_simp
    go_wp2
    go_ret
    exact ⟨rfl, hm3.below⟩
  have hf' : b.fin = true := by simpa using hf
  rw [hf'] at hF4 hR
  have F4 : (V b)[259]? = some (.bool true) := hF4
  clear hf hf' hF4
  by_cases z1 : b.left = 0
  · by_cases z2 : b.run = 0
    · by_cases z3 : b.dig = 0
      · rw [decide_eq_true ⟨z1, z2, z3⟩] at hR
        subst hR
        have y1 : (b.left == 0) = true := by simpa using z1
        have y2 : (b.run == 0) = true := by simpa using z2
        have y3 : (b.dig == 0) = true := by simpa using z3
        clear z1 z2 z3
        refine WL.out ?_
        refine WL.val rfl (by go_simp; rfl) ?_
        try simp only [Act.put, List.setIfInBounds_toArray, List.set_cons_zero, List.set_cons_succ]
        refine WL.run rfl (exec_loadcell' (off := 259) rfl rfl (hm3.row 0 rfl) one4 F4) ?_
        try simp only [Act.put, List.setIfInBounds_toArray, List.set_cons_zero, List.set_cons_succ]
        refine WL.val rfl (by go_simp; rfl) ?_
        try simp only [Act.put, List.setIfInBounds_toArray, List.set_cons_zero, List.set_cons_succ]
        refine WL.val rfl (by go_simp; rfl) ?_
        try simp only [Act.put, List.setIfInBounds_toArray, List.set_cons_zero, List.set_cons_succ]
        refine WL.val rfl (by go_simp; rfl) ?_
        try simp only [Act.put, List.setIfInBounds_toArray, List.set_cons_zero, List.set_cons_succ]
        refine WL.run rfl (exec_loadcell' (off := 256) rfl rfl (hm3.row 0 rfl) one3 (getV1 hl)) ?_
        try simp only [Act.put, List.setIfInBounds_toArray, List.set_cons_zero, List.set_cons_succ]
        refine WL.val rfl (by go_simp; rfl) ?_
        try simp only [Act.put, List.setIfInBounds_toArray, List.set_cons_zero, List.set_cons_succ]
        refine WL.val rfl (by go_simp; rfl) ?_
        try simp only [Act.put, List.setIfInBounds_toArray, List.set_cons_zero, List.set_cons_succ]
        refine WL.val rfl (by go_simp; rfl) ?_
        try simp only [Act.put, List.setIfInBounds_toArray, List.set_cons_zero, List.set_cons_succ]
        refine WL.run rfl (exec_loadcell' (off := 257) rfl rfl (hm3.row 0 rfl) one3 (getV2 hl)) ?_
        try simp only [Act.put, List.setIfInBounds_toArray, List.set_cons_zero, List.set_cons_succ]
        refine WL.val rfl (by go_simp; rfl) ?_
        try simp only [Act.put, List.setIfInBounds_toArray, List.set_cons_zero, List.set_cons_succ]
        refine WL.val rfl (by go_simp; rfl) ?_
        try simp only [Act.put, List.setIfInBounds_toArray, List.set_cons_zero, List.set_cons_succ]
        refine WL.val rfl (by go_simp; rfl) ?_
        try simp only [Act.put, List.setIfInBounds_toArray, List.set_cons_zero, List.set_cons_succ]
        refine WL.val rfl (by go_simp; rfl) ?_
        try simp only [Act.put, List.setIfInBounds_toArray, List.set_cons_zero, List.set_cons_succ]
        refine WL.run rfl (exec_loadcell' (off := 258) rfl rfl (hm3.row 0 rfl) one3 (getV3 hl)) ?_
        try simp only [Act.put, List.setIfInBounds_toArray, List.set_cons_zero, List.set_cons_succ]
        refine WL.val rfl (by go_simp; rfl) ?_
        try simp only [Act.put, List.setIfInBounds_toArray, List.set_cons_zero, List.set_cons_succ]
        refine WL.val rfl (by go_simp; rfl) ?_
        try simp only [Act.put, List.setIfInBounds_toArray, List.set_cons_zero, List.set_cons_succ]
        refine WL.val rfl (by go_simp; rfl) ?_
        try simp only [Act.put, List.setIfInBounds_toArray, List.set_cons_zero, List.set_cons_succ]
        refine WL.val rfl (by go_simp; rfl) ?_
        try simp only [Act.put, List.setIfInBounds_toArray, List.set_cons_zero, List.set_cons_succ]
        refine WL.mk ?_
        refine wpList_nil ?_
        go_simp
        go_wp2
        go_ret
        exact ⟨rfl, hm3.below⟩
      · rw [decide_eq_false (fun h => z3 h.2.2)] at hR
        subst hR
        have y1 : (b.left == 0) = true := by simpa using z1
        have y2 : (b.run == 0) = true := by simpa using z2
        have y3 : (b.dig == 0) = false := by simpa using z3
        clear z1 z2 z3
        refine WL.out ?_
        refine WL.val rfl (by go_simp; rfl) ?_
        try simp only [Act.put, List.setIfInBounds_toArray, List.set_cons_zero, List.set_cons_succ]
        refine WL.run rfl (exec_loadcell' (off := 259) rfl rfl (hm3.row 0 rfl) one4 F4) ?_
        try simp only [Act.put, List.setIfInBounds_toArray, List.set_cons_zero, List.set_cons_succ]
        refine WL.val rfl (by go_simp; rfl) ?_
        try simp only [Act.put, List.setIfInBounds_toArray, List.set_cons_zero, List.set_cons_succ]
        refine WL.val rfl (by go_simp; rfl) ?_
        try simp only [Act.put, List.setIfInBounds_toArray, List.set_cons_zero, List.set_cons_succ]
        refine WL.val rfl (by go_simp; rfl) ?_
        try simp only [Act.put, List.setIfInBounds_toArray, List.set_cons_zero, List.set_cons_succ]
        refine WL.run rfl (exec_loadcell' (off := 256) rfl rfl (hm3.row 0 rfl) one3 (getV1 hl)) ?_
        try simp only [Act.put, List.setIfInBounds_toArray, List.set_cons_zero, List.set_cons_succ]
        refine WL.val rfl (by go_simp; rfl) ?_
        try simp only [Act.put, List.setIfInBounds_toArray, List.set_cons_zero, List.set_cons_succ]
        refine WL.val rfl (by go_simp; rfl) ?_
        try simp only [Act.put, List.setIfInBounds_toArray, List.set_cons_zero, List.set_cons_succ]
        refine WL.val rfl (by go_simp; rfl) ?_
        try simp only [Act.put, List.setIfInBounds_toArray, List.set_cons_zero, List.set_cons_succ]
        refine WL.run rfl (exec_loadcell' (off := 257) rfl rfl (hm3.row 0 rfl) one3 (getV2 hl)) ?_
        try simp only [Act.put, List.setIfInBounds_toArray, List.set_cons_zero, List.set_cons_succ]
        refine WL.val rfl (by go_simp; rfl) ?_
        try simp only [Act.put, List.setIfInBounds_toArray, List.set_cons_zero, List.set_cons_succ]
        refine WL.val rfl (by go_simp; rfl) ?_
        try simp only [Act.put, List.setIfInBounds_toArray, List.set_cons_zero, List.set_cons_succ]
        refine WL.val rfl (by go_simp; rfl) ?_
        try simp only [Act.put, List.setIfInBounds_toArray, List.set_cons_zero, List.set_cons_succ]
        refine WL.val rfl (by go_simp; rfl) ?_
        try simp only [Act.put, List.setIfInBounds_toArray, List.set_cons_zero, List.set_cons_succ]
        refine WL.run rfl (exec_loadcell' (off := 258) rfl rfl (hm3.row 0 rfl) one3 (getV3 hl)) ?_
        try simp only [Act.put, List.setIfInBounds_toArray, List.set_cons_zero, List.set_cons_succ]
        refine WL.val rfl (by go_simp; rfl) ?_
        try simp only [Act.put, List.setIfInBounds_toArray, List.set_cons_zero, List.set_cons_succ]
        refine WL.val rfl (by go_simp; rfl) ?_
        try simp only [Act.put, List.setIfInBounds_toArray, List.set_cons_zero, List.set_cons_succ]
        refine WL.val rfl (by go_simp; rfl) ?_
        try simp only [Act.put, List.setIfInBounds_toArray, List.set_cons_zero, List.set_cons_succ]
        refine WL.val rfl (by go_simp; rfl) ?_
        try simp only [Act.put, List.setIfInBounds_toArray, List.set_cons_zero, List.set_cons_succ]
        refine WL.mk ?_
        refine wpList_nil ?_
        go_simp
        go_wp2
        go_ret
        exact ⟨rfl, hm3.below⟩
    · rw [decide_eq_false (fun h => z2 h.2.1)] at hR
      subst hR
      have y1 : (b.left == 0) = true := by simpa using z1
      have y2 : (b.run == 0) = false := by simpa using z2
      clear z1 z2
      refine WL.out ?_
      refine WL.val rfl (by go_simp; rfl) ?_
      try simp only [Act.put, List.setIfInBounds_toArray, List.set_cons_zero, List.set_cons_succ]
      refine WL.run rfl (exec_loadcell' (off := 259) rfl rfl (hm3.row 0 rfl) one4 F4) ?_
      try simp only [Act.put, List.setIfInBounds_toArray, List.set_cons_zero, List.set_cons_succ]
      refine WL.val rfl (by go_simp; rfl) ?_
      try simp only [Act.put, List.setIfInBounds_toArray, List.set_cons_zero, List.set_cons_succ]
      refine WL.val rfl (by go_simp; rfl) ?_
      try simp only [Act.put, List.setIfInBounds_toArray, List.set_cons_zero, List.set_cons_succ]
      refine WL.val rfl (by go_simp; rfl) ?_
      try simp only [Act.put, List.setIfInBounds_toArray, List.set_cons_zero, List.set_cons_succ]
      refine WL.run rfl (exec_loadcell' (off := 256) rfl rfl (hm3.row 0 rfl) one3 (getV1 hl)) ?_
      try simp only [Act.put, List.setIfInBounds_toArray, List.set_cons_zero, List.set_cons_succ]
      refine WL.val rfl (by go_simp; rfl) ?_
      try simp only [Act.put, List.setIfInBounds_toArray, List.set_cons_zero, List.set_cons_succ]
      refine WL.val rfl (by go_simp; rfl) ?_
      try simp only [Act.put, List.setIfInBounds_toArray, List.set_cons_zero, List.set_cons_succ]
      refine WL.val rfl (by go_simp; rfl) ?_
      try simp only [Act.put, List.setIfInBounds_toArray, List.set_cons_zero, List.set_cons_succ]
      refine WL.run rfl (exec_loadcell' (off := 257) rfl rfl (hm3.row 0 rfl) one3 (getV2 hl)) ?_
      try simp only [Act.put, List.setIfInBounds_toArray, List.set_cons_zero, List.set_cons_succ]
      refine WL.val rfl (by go_simp; rfl) ?_
      try simp only [Act.put, List.setIfInBounds_toArray, List.set_cons_zero, List.set_cons_succ]
      refine WL.val rfl (by go_simp; rfl) ?_
      try simp only [Act.put, List.setIfInBounds_toArray, List.set_cons_zero, List.set_cons_succ]
      refine WL.val rfl (by go_simp; rfl) ?_
      try simp only [Act.put, List.setIfInBounds_toArray, List.set_cons_zero, List.set_cons_succ]
      refine WL.pass rfl ?_
      try simp only [Act.put, List.setIfInBounds_toArray, List.set_cons_zero, List.set_cons_succ]
      refine WL.pass rfl ?_
      try simp only [Act.put, List.setIfInBounds_toArray, List.set_cons_zero, List.set_cons_succ]
      refine WL.pass rfl ?_
      try simp only [Act.put, List.setIfInBounds_toArray, List.set_cons_zero, List.set_cons_succ]
      refine WL.val rfl (by go_simp; rfl) ?_
      try simp only [Act.put, List.setIfInBounds_toArray, List.set_cons_zero, List.set_cons_succ]
      refine WL.val rfl (by go_simp; rfl) ?_
      try simp only [Act.put, List.setIfInBounds_toArray, List.set_cons_zero, List.set_cons_succ]
      refine WL.val rfl (by go_simp; rfl) ?_
      try simp only [Act.put, List.setIfInBounds_toArray, List.set_cons_zero, List.set_cons_succ]
      refine WL.mk ?_
      refine wpList_nil ?_
      go_simp
      go_wp2
      go_ret
      exact ⟨rfl, hm3.below⟩
  · rw [decide_eq_false (fun h => z1 h.1)] at hR
    subst hR
    have y1 : (b.left == 0) = false := by simpa using z1
    clear z1
    refine WL.out ?_
    refine WL.val rfl (by go_simp; rfl) ?_
    try simp only [Act.put, List.setIfInBounds_toArray, List.set_cons_zero, List.set_cons_succ]
    refine WL.run rfl (exec_loadcell' (off := 259) rfl rfl (hm3.row 0 rfl) one4 F4) ?_
    try simp only [Act.put, List.setIfInBounds_toArray, List.set_cons_zero, List.set_cons_succ]
    refine WL.val rfl (by go_simp; rfl) ?_
    try simp only [Act.put, List.setIfInBounds_toArray, List.set_cons_zero, List.set_cons_succ]
    refine WL.val rfl (by go_simp; rfl) ?_
    try simp only [Act.put, List.setIfInBounds_toArray, List.set_cons_zero, List.set_cons_succ]
    refine WL.val rfl (by go_simp; rfl) ?_
    try simp only [Act.put, List.setIfInBounds_toArray, List.set_cons_zero, List.set_cons_succ]
    refine WL.run rfl (exec_loadcell' (off := 256) rfl rfl (hm3.row 0 rfl) one3 (getV1 hl)) ?_
    try simp only [Act.put, List.setIfInBounds_toArray, List.set_cons_zero, List.set_cons_succ]
    refine WL.val rfl (by go_simp; rfl) ?_
    try simp only [Act.put, List.setIfInBounds_toArray, List.set_cons_zero, List.set_cons_succ]
    refine WL.val rfl (by go_simp; rfl) ?_
    try simp only [Act.put, List.setIfInBounds_toArray, List.set_cons_zero, List.set_cons_succ]
    refine WL.pass rfl ?_
    try simp only [Act.put, List.setIfInBounds_toArray, List.set_cons_zero, List.set_cons_succ]
    refine WL.pass rfl ?_
    try simp only [Act.put, List.setIfInBounds_toArray, List.set_cons_zero, List.set_cons_succ]
    refine WL.pass rfl ?_
    try simp only [Act.put, List.setIfInBounds_toArray, List.set_cons_zero, List.set_cons_succ]
    refine WL.val rfl (by go_simp; rfl) ?_
    try simp only [Act.put, List.setIfInBounds_toArray, List.set_cons_zero, List.set_cons_succ]
    refine WL.val rfl (by go_simp; rfl) ?_
    try simp only [Act.put, List.setIfInBounds_toArray, List.set_cons_zero, List.set_cons_succ]
    refine WL.pass rfl ?_
    try simp only [Act.put, List.setIfInBounds_toArray, List.set_cons_zero, List.set_cons_succ]
    refine WL.pass rfl ?_
    try simp only [Act.put, List.setIfInBounds_toArray, List.set_cons_zero, List.set_cons_succ]
    refine WL.pass rfl ?_
    try simp only [Act.put, List.setIfInBounds_toArray, List.set_cons_zero, List.set_cons_succ]
    refine WL.val rfl (by go_simp; rfl) ?_
    try simp only [Act.put, List.setIfInBounds_toArray, List.set_cons_zero, List.set_cons_succ]
    refine WL.val rfl (by go_simp; rfl) ?_
    try simp only [Act.put, List.setIfInBounds_toArray, List.set_cons_zero, List.set_cons_succ]
    refine WL.val rfl (by go_simp; rfl) ?_
    try simp only [Act.put, List.setIfInBounds_toArray, List.set_cons_zero, List.set_cons_succ]
    refine WL.mk ?_
    refine wpList_nil ?_
    go_simp
    go_wp2
    go_ret
    exact ⟨rfl, hm3.below⟩
theorem rdvalid_any (b : DS) (w : World) (hl : b.l.length = 256) (hb : Bytes b.l) : Calls Try.prog 61 #[.agg (V b)] w fun e w' => (e = .returned (.bool (dOk b))) ∧ Below w.heap.size w w' := by
  have RV : ∀ w, Calls Try.prog 26 #[.agg (B b.l)] w fun e w' => (e = .returned (.bool (vld b.l))) ∧ Below w.heap.size w w' := fun w => by rw [vld_dis hl hb]; exact rvalid_any b.l w hl
  cases hv : vld b.l with
  | false =>
    have e : dOk b = false := by rw [dOk, hv]; rfl
    rw [e]
    exact rdv_v b w hl (Lib.hid (fun w => by have h := RV w; rwa [hv] at h))
  | true =>
    have CV : Hid (∀ w, Calls Try.prog 26 #[.agg (B b.l)] w fun e w' => (e = .returned (.bool true)) ∧ Below w.heap.size w w') := Lib.hid (fun w => by have h := RV w; rwa [hv] at h)
    by_cases h : 0 ≤ b.left ∧ b.left ≤ 65536 ∧ 0 ≤ b.run ∧ b.run ≤ b.left ∧ 0 ≤ b.dig ∧ b.dig ≤ 16 ∧ ((dg b.run.toNat).length : Int) = b.dig
    · have hd := decide_eq_true h
      obtain ⟨a1, a2, a3, a4, a5, a6, a7⟩ := h
      have e : dOk b = (!b.fin || decide (b.left = 0 ∧ b.run = 0 ∧ b.dig = 0)) := by rw [dOk, hv, hd]; rfl
      rw [e]
      exact rdv_end b w hl CV (by omega) (by omega) (by omega) (by omega) (by omega) (by omega) a7
    · have e : dOk b = false := by rw [dOk, hv, decide_eq_false h]; rfl
      rw [e]
      by_cases h1 : b.left < 0
      · exact rdv_1 b w hl CV h1
      by_cases h2 : 65536 < b.left
      · exact rdv_2 b w hl CV h1 h2
      by_cases h3 : b.run < 0
      · exact rdv_3 b w hl CV h1 h2 h3
      by_cases h4 : b.left < b.run
      · exact rdv_4 b w hl CV h1 h2 h3 h4
      by_cases h5 : b.dig < 0
      · exact rdv_5 b w hl CV h1 h2 h3 h4 h5
      by_cases h6 : 16 < b.dig
      · exact rdv_6 b w hl CV h1 h2 h3 h4 h5 h6
      exact rdv_len b w hl CV h1 h2 h3 h4 h5 h6 (fun h7 => h ⟨by omega, by omega, by omega, by omega, by omega, by omega, h7⟩)
end Go.Proofs.Ytaccjnekonmkoaa
