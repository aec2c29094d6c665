/-
  The plain law of places: the place of a byte in the list behind a text is the number of different bytes since its last occurrence, or its value plus the number of greater bytes seen.
-/
import Derived.Test.YtaccjnekonmkoaaPlainC
namespace Go.Proofs.Ytaccjnekonmkoaa
open Go Go.RowKit

theorem pos_of_gi {l : List Int} (h : Vl l) {k : Nat} (hk : k < 256) {c : Int} (e : gi l k = c) : pos l c = k := by
  have hk' : k < l.length := by rw [h.len]; exact hk
  have := findIdx_at h.nodup k hk'
  rw [gi_eq l k hk'] at e
  rw [← e, pos, this, if_pos hk']
theorem pos_self {l : List Int} (h : Vl l) {c : Int} (h0 : 0 ≤ c) (h1 : c < 256) : pos (putL l c) c = 0 :=
  (pos_zero (h.putL c) h0 h1).2 (gi_putL_zero h h0 h1)
theorem pos_inj {l : List Int} (h : Vl l) {c x : Int} (h0 : 0 ≤ c) (h1 : c < 256) (x0 : 0 ≤ x) (x1 : x < 256) (e : pos l c = pos l x) : c = x := by
  rw [← pos_get h h0 h1, e, pos_get h x0 x1]
theorem pos_put {l : List Int} (h : Vl l) {c x : Int} (h0 : 0 ≤ c) (h1 : c < 256) (x0 : 0 ≤ x) (x1 : x < 256) (hn : c ≠ x) :
    pos (putL l x) c = if pos l c < pos l x then pos l c + 1 else pos l c := by
  have rc := pos_range h h0 h1
  have rx := pos_range h x0 x1
  have gc := pos_get h h0 h1
  have hne : pos l c ≠ pos l x := fun e => hn (pos_inj h h0 h1 x0 x1 e)
  have G := gi_putL h x0 x1
  generalize pos l c = q at *
  generalize pos l x = p at *
  obtain ⟨q, rfl⟩ := Int.eq_ofNat_of_zero_le rc.1
  obtain ⟨p, rfl⟩ := Int.eq_ofNat_of_zero_le rx.1
  rw [Int.toNat_natCast] at gc
  simp only [Int.toNat_natCast] at G
  split
  · refine pos_of_gi (k := q + 1) (h.putL x) (by omega) ?_
    rw [G (q + 1) (by omega), if_pos (by omega), Nat.add_sub_cancel, gc]
  · refine pos_of_gi (h.putL x) (by omega) ?_
    rw [G q (by omega), if_neg (by omega), gc]
theorem pos_order {l : List Int} (h : Vl l) {a b x : Int} (a0 : 0 ≤ a) (a1 : a < 256) (b0 : 0 ≤ b) (b1 : b < 256) (x0 : 0 ≤ x) (x1 : x < 256) (ha : a ≠ x) (hb : b ≠ x) :
    pos (putL l x) a < pos (putL l x) b ↔ pos l a < pos l b := by
  rw [pos_put h a0 a1 x0 x1 ha, pos_put h b0 b1 x0 x1 hb]
  have h1 : pos l a ≠ pos l x := fun e => ha (pos_inj h a0 a1 x0 x1 e)
  have h2 : pos l b ≠ pos l x := fun e => hb (pos_inj h b0 b1 x0 x1 e)
  split <;> split <;> omega

theorem snoc_ind {P : List Int → Prop} (h0 : P []) (h1 : ∀ d y, P d → P (d ++ [y])) (d : List Int) : P d := by
  have h : ∀ r : List Int, P r.reverse := by
    intro r
    induction r with
    | nil => exact h0
    | cons y r ih => rw [List.reverse_cons]; exact h1 _ _ ih
  rw [← List.reverse_reverse d]
  exact h _
/-- How many numbers below 256 fulfil a test. -/
def cnt (p : Nat → Bool) : Nat := (List.range 256).countP p
theorem cnt_add (p : Nat → Bool) (x : Nat) (R : List Nat) (hn : R.Nodup) : R.countP (fun v => p v || v == x) = R.countP p + if x ∈ R ∧ p x = false then 1 else 0 := by
  induction R with
  | nil => simp
  | cons y R ih =>
    have hn' := (List.nodup_cons.1 hn)
    rw [List.countP_cons, List.countP_cons, ih hn'.2]
    by_cases hy : y = x
    · subst hy
      by_cases hp : p y = true
      · simp [hp]
      · simp [hp, hn'.1]
    · have hy' : ¬ x = y := fun e => hy e.symm
      simp only [List.mem_cons, hy', false_or, beq_eq_false_iff_ne.2 hy, Bool.or_false]
      omega
theorem cnt_or (p : Nat → Bool) (x : Nat) (hx : x < 256) : cnt (fun v => p v || v == x) = cnt p + if p x = false then 1 else 0 := by
  rw [cnt, cnt_add p x _ List.nodup_range]
  simp [cnt, List.mem_range, hx]

/-- How many different bytes a list holds. -/
def nd (d : List Int) : Nat := cnt (fun v => d.contains (v : Int))
/-- How many bytes above c a list holds. -/
def ng (d : List Int) (c : Int) : Nat := cnt (fun v => decide (c < (v : Int)) && d.contains (v : Int))
theorem nd_nil : nd [] = 0 := by simp [nd, cnt]
theorem contains_snoc (d : List Int) (x : Nat) (v : Nat) : (d ++ [(x : Int)]).contains (v : Int) = (d.contains (v : Int) || v == x) := by
  rw [Bool.eq_iff_iff]; simp [Int.natCast_inj]
theorem contains_cons (d : List Int) (x : Nat) (v : Nat) : ((x : Int) :: d).contains (v : Int) = (d.contains (v : Int) || v == x) := by
  rw [Bool.eq_iff_iff]; simp [Int.natCast_inj, or_comm]
theorem nd_snoc (d : List Int) {x : Int} (x0 : 0 ≤ x) (x1 : x < 256) : nd (d ++ [x]) = nd d + if d.contains x = false then 1 else 0 := by
  obtain ⟨x, rfl⟩ := Int.eq_ofNat_of_zero_le x0
  simp only [nd, contains_snoc]
  exact cnt_or _ x (by omega)
theorem nd_cons (d : List Int) {x : Int} (x0 : 0 ≤ x) (x1 : x < 256) : nd (x :: d) = nd d + if d.contains x = false then 1 else 0 := by
  obtain ⟨x, rfl⟩ := Int.eq_ofNat_of_zero_le x0
  simp only [nd, contains_cons]
  exact cnt_or _ x (by omega)
theorem ng_snoc (d : List Int) (c : Int) {x : Int} (x0 : 0 ≤ x) (x1 : x < 256) : ng (d ++ [x]) c = ng d c + if c < x ∧ d.contains x = false then 1 else 0 := by
  obtain ⟨x, rfl⟩ := Int.eq_ofNat_of_zero_le x0
  simp only [ng, contains_snoc]
  by_cases hc : c < (x : Int)
  · have := cnt_or (fun v => decide (c < (v : Int)) && d.contains (v : Int)) x (by omega)
    simp only [hc, decide_true, Bool.true_and, true_and] at this ⊢
    rw [← this]
    refine congrArg cnt (funext fun v => ?_)
    by_cases hv : v = x
    · subst hv; simp [hc]
    · simp only [beq_eq_false_iff_ne.2 hv, Bool.or_false]
  · simp only [hc, false_and, if_false, Nat.add_zero]
    refine congrArg cnt (funext fun v => ?_)
    by_cases hv : v = x
    · subst hv; simp [hc]
    · simp only [beq_eq_false_iff_ne.2 hv, Bool.or_false]

theorem bytes_snoc {d : List Int} {x : Int} (h : Bytes (d ++ [x])) : Bytes d ∧ 0 ≤ x ∧ x < 256 :=
  ⟨fun y hy => h y (by simp [hy]), h x (by simp)⟩
theorem vlst (b : List Int) : Vl (lst new b) := vl_lst b new vl_new
/-- Before the last occurrence's byte stand just the bytes that came after it. -/
theorem before_last {c : Int} (h0 : 0 ≤ c) (h1 : c < 256) (u : List Int) : ∀ (d : List Int), Bytes d → c ∉ d → ∀ x, 0 ≤ x → x < 256 → (pos (lst new ((u ++ [c]) ++ d)) x < pos (lst new ((u ++ [c]) ++ d)) c ↔ x ∈ d) := by
  intro d
  induction d using snoc_ind with
  | h0 =>
    intro _ _ x x0 x1
    rw [List.append_nil, lst_snoc, pos_self (vlst u) h0 h1]
    have := (pos_range ((vlst u).putL c) x0 x1).1
    simp only [List.not_mem_nil, iff_false]
    omega
  | h1 d y ih =>
    intro hb hc x x0 x1
    obtain ⟨hbd, y0, y1⟩ := bytes_snoc hb
    have hcy : c ≠ y := fun e => hc (by simp [e])
    rw [← List.append_assoc, lst_snoc]
    by_cases hx : x = y
    · subst hx
      rw [pos_self (vlst _) x0 x1]
      have h := (pos_range ((vlst ((u ++ [c]) ++ d)).putL x) h0 h1).1
      have h2 : pos (putL (lst new ((u ++ [c]) ++ d)) x) c ≠ 0 := fun e => hcy (by
        have := pos_inj ((vlst _).putL x) h0 h1 x0 x1 (e.trans (pos_self (vlst _) x0 x1).symm)
        exact this)
      simp only [List.mem_append, List.mem_singleton, or_true, iff_true]
      omega
    · rw [pos_order (vlst _) x0 x1 h0 h1 y0 y1 hx hcy, ih hbd (fun h => hc (by simp [h])) x x0 x1]
      simp [hx]
/-- The place of a byte that occurred before. -/
theorem pos_last {c : Int} (h0 : 0 ≤ c) (h1 : c < 256) (u : List Int) : ∀ (d : List Int), Bytes d → c ∉ d → pos (lst new ((u ++ [c]) ++ d)) c = nd d := by
  intro d
  induction d using snoc_ind with
  | h0 => intro _ _; rw [List.append_nil, lst_snoc, pos_self (vlst u) h0 h1, nd_nil]; rfl
  | h1 d y ih =>
    intro hb hc
    obtain ⟨hbd, y0, y1⟩ := bytes_snoc hb
    have hcy : c ≠ y := fun e => hc (by simp [e])
    have hcd : c ∉ d := fun h => hc (by simp [h])
    have B := before_last h0 h1 u d hbd hcd y y0 y1
    have I := ih hbd hcd
    have hne : pos (lst new ((u ++ [c]) ++ d)) c ≠ pos (lst new ((u ++ [c]) ++ d)) y := fun e => hcy (pos_inj (vlst _) h0 h1 y0 y1 e)
    rw [← List.append_assoc, lst_snoc, pos_put (vlst _) h0 h1 y0 y1 hcy, nd_snoc d y0 y1, Int.natCast_add, ← I]
    by_cases hy : y ∈ d
    · have hy' : ¬ d.contains y = false := by simpa using hy
      rw [if_neg hy', if_neg (by have := B.2 hy; omega)]
      omega
    · have hy' : d.contains y = false := by simpa using hy
      rw [if_pos hy', if_pos (by have : ¬ _ := fun h => hy (B.1 h); omega)]
      omega
/-- The bytes that never occurred stand in their own order, behind all that did. -/
theorem after_never {c : Int} (h0 : 0 ≤ c) (h1 : c < 256) : ∀ (t : List Int), Bytes t → c ∉ t → ∀ x, 0 ≤ x → x < 256 → (pos (lst new t) c < pos (lst new t) x ↔ x ∉ t ∧ c < x) := by
  intro t
  induction t using snoc_ind with
  | h0 =>
    intro _ _ x x0 x1
    have e : ∀ c : Int, 0 ≤ c → c < 256 → pos new c = c := by
      intro c c0 c1
      obtain ⟨k, rfl⟩ := Int.eq_ofNat_of_zero_le c0
      refine pos_of_gi vl_new (by omega) ?_
      rw [gi, List.getD_eq_getElem?_getD, new_get k (by omega)]
      rfl
    show pos new c < pos new x ↔ _
    rw [e c h0 h1, e x x0 x1]
    simp
  | h1 t y ih =>
    intro hb hc x x0 x1
    obtain ⟨hbt, y0, y1⟩ := bytes_snoc hb
    have hcy : c ≠ y := fun e => hc (by simp [e])
    have hct : c ∉ t := fun h => hc (by simp [h])
    rw [lst_snoc]
    by_cases hx : x = y
    · subst hx
      rw [pos_self (vlst _) x0 x1]
      have h := (pos_range ((vlst t).putL x) h0 h1).1
      simp only [List.mem_append, List.mem_singleton, or_true, not_true_eq_false, false_and, iff_false]
      omega
    · rw [pos_order (vlst _) h0 h1 x0 x1 y0 y1 hcy hx, ih hbt hct x x0 x1]
      simp [hx]
/-- The place of a byte that did not occur before. -/
theorem pos_never {c : Int} (h0 : 0 ≤ c) (h1 : c < 256) : ∀ (t : List Int), Bytes t → c ∉ t → pos (lst new t) c = c + ng t c := by
  intro t
  induction t using snoc_ind with
  | h0 =>
    intro _ _
    have e : ng [] c = 0 := by simp [ng, cnt]
    obtain ⟨k, rfl⟩ := Int.eq_ofNat_of_zero_le h0
    rw [e]
    show pos new _ = _
    rw [pos_of_gi vl_new (k := k) (by omega) (by rw [gi, List.getD_eq_getElem?_getD, new_get k (by omega)]; rfl)]
    rfl
  | h1 t y ih =>
    intro hb hc
    obtain ⟨hbt, y0, y1⟩ := bytes_snoc hb
    have hcy : c ≠ y := fun e => hc (by simp [e])
    have hct : c ∉ t := fun h => hc (by simp [h])
    have A := after_never h0 h1 t hbt hct y y0 y1
    have I := ih hbt hct
    rw [lst_snoc, pos_put (vlst _) h0 h1 y0 y1 hcy, ng_snoc t c y0 y1, ← Int.add_zero (c + _)]
    by_cases hy : y ∉ t ∧ c < y
    · have hy' : c < y ∧ t.contains y = false := ⟨hy.2, by simpa using hy.1⟩
      rw [if_pos hy', if_pos (A.2 hy), I]
      omega
    · have hy' : ¬ (c < y ∧ t.contains y = false) := fun h => hy ⟨by simpa using h.2, h.1⟩
      rw [if_neg hy', if_neg (fun h => hy (A.1 h)), I]
      omega

theorem drop_cons (t : List Int) (m : Nat) (h : m < t.length) : t.drop m = gi t m :: t.drop (m + 1) := by
  rw [gi_eq t m h, List.drop_eq_getElem_cons h]
/-- The place that the coder writes, told by the bytes before: the byte at m < i is the last one alike. -/
theorem forth_last {b : List Int} (hb : Bytes b) (i : Nat) (hi : i < b.length) (m : Nat) (hm : m < i) (he : gi b m = gi b i) (hn : gi b i ∉ (b.take i).drop (m + 1)) : gi (forth b) i = nd ((b.take i).drop (m + 1)) := by
  have hbt : Bytes (b.take i) := fun x hx => hb x (List.mem_of_mem_take hx)
  have hbd : Bytes ((b.take i).drop (m + 1)) := fun x hx => hbt x (List.mem_of_mem_drop hx)
  have hc := hb.gi i hi
  have hg : gi (b.take i) m = gi b m := by simp [gi, List.getD_eq_getElem?_getD, hm]
  have ht : b.take i = ((b.take i).take m ++ [gi b i]) ++ (b.take i).drop (m + 1) := by
    rw [List.append_assoc, List.singleton_append, ← he, ← hg, ← drop_cons _ m (by rw [List.length_take]; omega), List.take_append_drop]
  rw [forth, gi_plc b new i hi]
  have := pos_last hc.1 hc.2 ((b.take i).take m) _ hbd hn
  rw [← ht] at this
  exact this
theorem forth_never {b : List Int} (hb : Bytes b) (i : Nat) (hi : i < b.length) (hn : gi b i ∉ b.take i) : gi (forth b) i = gi b i + ng (b.take i) (gi b i) := by
  have hbt : Bytes (b.take i) := fun x hx => hb x (List.mem_of_mem_take hx)
  have hc := hb.gi i hi
  rw [forth, gi_plc b new i hi]
  exact pos_never hc.1 hc.2 _ hbt hn

/-! The walk's own numbers. -/
def S (d : List Int) : Array Value := ((List.range 256).map fun (v : Nat) => Value.bool (d.contains (v : Int))).toArray
theorem size_S (d : List Int) : (S d).size = 256 := by simp [S]
theorem get_S (d : List Int) (v : Nat) (h : v < 256) : (S d)[v]? = some (.bool (d.contains (v : Int))) := by
  simp [S, h]
theorem set_S (d : List Int) (v : Nat) : (S d).setIfInBounds v (.bool true) = S ((v : Int) :: d) := by
  apply Array.ext'
  rw [Array.toList_setIfInBounds]
  simp only [S, contains_cons]
  refine List.ext_getElem? fun j => ?_
  rw [List.getElem?_set]
  by_cases hj : j < 256
  · by_cases hv : v = j
    · subst hv; simp [hj]
    · have : ¬ j = v := fun e => hv e.symm
      simp [hj, hv, this]
  · simp [hj]; omega
theorem S_same (d : List Int) (v : Nat) (h : d.contains (v : Int) = true) : S ((v : Int) :: d) = S d := by
  simp only [S, contains_cons]
  refine congrArg List.toArray (List.map_congr_left fun j _ => ?_)
  by_cases hj : j = v
  · subst hj; rw [h]; rfl
  · simp only [beq_eq_false_iff_ne.2 hj, Bool.or_false]
theorem nd_le (d : List Int) : nd d ≤ 256 := by
  have := List.countP_le_length (p := fun (v : Nat) => d.contains (v : Int)) (l := List.range 256)
  rwa [List.length_range] at this
def ngUp (d : List Int) (c : Int) (j : Nat) : Nat := (List.range j).countP (fun (v : Nat) => decide (c < (v : Int)) && d.contains (v : Int))
theorem ngUp_end (d : List Int) (c : Int) : ngUp d c 256 = ng d c := rfl
theorem ngUp_start (d : List Int) (c : Nat) : ngUp d c (c + 1) = 0 := by
  rw [ngUp, List.countP_eq_zero]
  intro v hv
  have := List.mem_range.1 hv
  simp only [Bool.and_eq_true, decide_eq_true_eq, not_and]
  intro h; omega
theorem ngUp_step (d : List Int) (c : Int) (j : Nat) (h : c < (j : Int)) : ngUp d c (j + 1) = ngUp d c j + if d.contains (j : Int) = true then 1 else 0 := by
  rw [ngUp, List.range_succ, List.countP_append]
  have : decide (c < (j : Int)) = true := decide_eq_true h
  simp [ngUp, List.countP_cons, this]
theorem ngUp_le (d : List Int) (c : Int) (j : Nat) : ngUp d c j ≤ j := by
  have := List.countP_le_length (p := fun (v : Nat) => decide (c < (v : Int)) && d.contains (v : Int)) (l := List.range j)
  rwa [List.length_range] at this
theorem drop_step {b : List Int} {i m : Nat} (hi : i ≤ b.length) (h0 : 0 < m) (hm : m ≤ i) : (b.take i).drop (m - 1) = gi b (m - 1) :: (b.take i).drop m := by
  have h := drop_cons (b.take i) (m - 1) (by rw [List.length_take]; omega)
  rw [show m - 1 + 1 = m by omega] at h
  rw [h]
  congr 1
  simp [gi, List.getD_eq_getElem?_getD, show m - 1 < i by omega]
end Go.Proofs.Ytaccjnekonmkoaa
