/-
  Part 12 of the proof.
-/
import Derived.Test.YtkpbhdhkdonghaaGreatV08
import Derived.Test.YtkpbhdhkdonghaaGreatV09
import Derived.Test.YtkpbhdhkdonghaaGreatV11
set_option linter.all false
namespace Go.Proofs.YtkpbhdhkdonghaaGreat
open Go Go.RowKit
def oneL : List Nat := [3, 4, 5, 9, 22, 25, 46, 68, 70, 72, 97, 102, 104, 124, 211, 232, 239, 276, 304, 311, 361]
theorem ot {t : Nat} (h : oneL.contains t = true) : OneTy Tryz.prog t := by
  simp only [oneL, List.contains_cons, List.contains_nil, Bool.or_eq_true, beq_iff_eq, Bool.or_false] at h
  rcases h with rfl | rfl | rfl | rfl | rfl | rfl | rfl | rfl | rfl | rfl | rfl | rfl | rfl | rfl | rfl | rfl | rfl | rfl | rfl | rfl | rfl
  all_goals exact ⟨fun w => by kernel_rfl, by kernel_rfl⟩
def aggL : List (Nat × Nat) := [(50, 2), (74, 3), (76, 7), (80, 1), (86, 2), (88, 7), (106, 15), (110, 3), (114, 9), (115, 256), (121, 266), (132, 4), (134, 1), (137, 4), (139, 258), (141, 262), (143, 260), (145, 256), (147, 260), (149, 795), (172, 9), (184, 257), (199, 3), (219, 256), (227, 258), (241, 2), (268, 257), (281, 2), (283, 2), (287, 258), (290, 4), (296, 16), (309, 3), (313, 6)]
theorem ag {t n : Nat} (h : aggL.contains (t, n) = true) : AggTy Tryz.prog t n := by
  simp only [aggL, List.contains_cons, List.contains_nil, Bool.or_eq_true, beq_iff_eq, Bool.or_false, Prod.mk.injEq] at h
  rcases h with ⟨rfl, rfl⟩ | ⟨rfl, rfl⟩ | ⟨rfl, rfl⟩ | ⟨rfl, rfl⟩ | ⟨rfl, rfl⟩ | ⟨rfl, rfl⟩ | ⟨rfl, rfl⟩ | ⟨rfl, rfl⟩ | ⟨rfl, rfl⟩ | ⟨rfl, rfl⟩ | ⟨rfl, rfl⟩ | ⟨rfl, rfl⟩ | ⟨rfl, rfl⟩ | ⟨rfl, rfl⟩ | ⟨rfl, rfl⟩ | ⟨rfl, rfl⟩ | ⟨rfl, rfl⟩ | ⟨rfl, rfl⟩ | ⟨rfl, rfl⟩ | ⟨rfl, rfl⟩ | ⟨rfl, rfl⟩ | ⟨rfl, rfl⟩ | ⟨rfl, rfl⟩ | ⟨rfl, rfl⟩ | ⟨rfl, rfl⟩ | ⟨rfl, rfl⟩ | ⟨rfl, rfl⟩ | ⟨rfl, rfl⟩ | ⟨rfl, rfl⟩ | ⟨rfl, rfl⟩ | ⟨rfl, rfl⟩ | ⟨rfl, rfl⟩ | ⟨rfl, rfl⟩ | ⟨rfl, rfl⟩
  · exact AggTy.mk' Tryz.underlying50 rfl (by kernel_rfl)
  · exact AggTy.mk' Tryz.underlying74 rfl (by kernel_rfl)
  · exact AggTy.mk' Tryz.underlying76 rfl (by kernel_rfl)
  · exact AggTy.mk' Tryz.underlying80 rfl (by kernel_rfl)
  · exact AggTy.mk' Tryz.underlying86 rfl (by kernel_rfl)
  · exact AggTy.mk' Tryz.underlying88 rfl (by kernel_rfl)
  · exact AggTy.mk' Tryz.underlying106 rfl (by kernel_rfl)
  · exact AggTy.mk' Tryz.underlying110 rfl (by kernel_rfl)
  · exact AggTy.mk' Tryz.underlying114 rfl (by kernel_rfl)
  · exact AggTy.mk' Tryz.underlying115 rfl (by kernel_rfl)
  · exact AggTy.mk' Tryz.underlying121 rfl (by kernel_rfl)
  · exact AggTy.mk' Tryz.underlying132 rfl (by kernel_rfl)
  · exact AggTy.mk' Tryz.underlying134 rfl (by kernel_rfl)
  · exact AggTy.mk' Tryz.underlying137 rfl (by kernel_rfl)
  · exact AggTy.mk' Tryz.underlying139 rfl (by kernel_rfl)
  · exact AggTy.mk' Tryz.underlying141 rfl (by kernel_rfl)
  · exact AggTy.mk' Tryz.underlying143 rfl (by kernel_rfl)
  · exact AggTy.mk' Tryz.underlying145 rfl (by kernel_rfl)
  · exact AggTy.mk' Tryz.underlying147 rfl (by kernel_rfl)
  · exact AggTy.mk' Tryz.underlying149 rfl (by kernel_rfl)
  · exact AggTy.mk' Tryz.underlying172 rfl (by kernel_rfl)
  · exact AggTy.mk' Tryz.underlying184 rfl (by kernel_rfl)
  · exact AggTy.mk' Tryz.underlying199 rfl (by kernel_rfl)
  · exact AggTy.mk' Tryz.underlying219 rfl (by kernel_rfl)
  · exact AggTy.mk' Tryz.underlying227 rfl (by kernel_rfl)
  · exact AggTy.mk' Tryz.underlying241 rfl (by kernel_rfl)
  · exact AggTy.mk' Tryz.underlying268 rfl (by kernel_rfl)
  · exact AggTy.mk' Tryz.underlying281 rfl (by kernel_rfl)
  · exact AggTy.mk' Tryz.underlying283 rfl (by kernel_rfl)
  · exact AggTy.mk' Tryz.underlying287 rfl (by kernel_rfl)
  · exact AggTy.mk' Tryz.underlying290 rfl (by kernel_rfl)
  · exact AggTy.mk' Tryz.underlying296 rfl (by kernel_rfl)
  · exact AggTy.mk' Tryz.underlying309 rfl (by kernel_rfl)
  · exact AggTy.mk' Tryz.underlying313 rfl (by kernel_rfl)
theorem zr50 (w : World) : (zeroValue 50).run Tryz.prog w = .ok (.agg #[.int .i64 0, .int .i64 0]) w := by kernel_rfl
theorem cons_eraseIdx {α : Type} : ∀ (l : List α) (i : Nat) (x : α), l[i]? = some x → (x :: l.eraseIdx i).Perm l
  | [], _, _, h => by simp at h
  | a :: l, 0, x, h => by simp at h; subst h; exact List.Perm.refl _
  | a :: l, i + 1, x, h => by
    simp only [List.getElem?_cons_succ] at h
    simp only [List.eraseIdx_cons_succ]
    exact (List.Perm.swap a x _).trans ((cons_eraseIdx l i x h).cons a)
theorem Own.front {w0 w : World} {rs : List (Nat × Array Value)} {ss : List Sl} (i : Nat) {r : Nat × Array Value} (h : Own w0 w rs ss) (hi : rs[i]? = some r) : Own w0 w (r :: rs.eraseIdx i) ss := by
  have hp := cons_eraseIdx rs i r hi
  exact ⟨⟨h.mem.below, fun p hp' => h.mem.own p (hp.mem_iff.1 hp'), fun p hp' => h.mem.rows p (hp.mem_iff.1 hp'), (hp.map _).nodup_iff.2 h.mem.apart⟩, h.sl, ((hp.map Prod.fst).append_left _).nodup_iff.2 h.apart⟩
section
variable {P : Program} {w0 w : World} {rs : List (Nat × Array Value)} {ss : List Sl} {o : Oper} {a : Act} {K : Value → World → Prop}
theorem ev_tmp {k : Nat} {v : Value} (h : a.tmps.toList[k]? = some v) : a.eval (.tmp k) = v := by
  have h' : a.tmps[k]? = some v := by rw [← Array.getElem?_toList]; exact h
  simp [Act.eval, h']
theorem eff_alloc (hm : Own w0 w rs ss) {ty : TypeId} (ho : o.op = .alloc ty) {cs : Array Value} (hz : ∀ w, (zeroValue ty).run P w = .ok (.agg cs) w)
    (h : ∀ w' g, Own w0 w' ((g, cs) :: rs) ss → K (.pointer (some ⟨g, 0, none⟩)) w') : Eff P o a w K := Eff.val (exec_alloc ho hz) (h _ _ (hm.alloc cs ty))
theorem eff_box (hm : Own w0 w rs ss) {ty : TypeId} {x : Operand} (ho : o.op = .box ty x) {cs : Array Value} (hx : a.eval x = .agg cs)
    (h : ∀ w' g, Own w0 w' ((g, cs) :: rs) ss → K (.pointer (some ⟨g, 0, none⟩)) w') : Eff P o a w K := by
  refine Eff.val (v := .pointer (some ⟨w.heap.size, 0, none⟩)) (w' := w.alloc (.cells cs ty)) ?_ (h _ _ (hm.alloc cs ty))
  unfold execOp
  simp only [ho, hx, Instr.box, Sem.run_bind, Sem.run_pure]
  rfl
theorem eff_store (i : Nat) (hm : Own w0 w rs ss) {ty : TypeId} {x y : Operand} (ho : o.op = .store ty x y) {g : Nat} (hx : a.eval x = .pointer (some ⟨g, 0, none⟩)) {vs cs : Array Value} (hy : a.eval y = .agg vs)
    (hi : rs[i]? = some (g, cs)) (ht : AggTy P ty vs.size) (hs : vs.size = cs.size) (h1 : ∀ v ∈ vs, v.oneCell' = true)
    (h : ∀ w', Own w0 w' (rs.set i (g, vs)) ss → K undef w') : Eff P o a w K := by
  have hrun := exec_store (P := P) (off := 0) ho hx hy (hm.row i hi) ht rfl (by omega) h1
  rw [splice_full cs vs hs] at hrun
  exact Eff.skip hrun (h _ (hm.setRow i vs hi))
theorem eff_cell (i : Nat) (hm : Own w0 w rs ss) {ty : TypeId} {x y : Operand} (ho : o.op = .store ty x y) {g off : Nat} (hx : a.eval x = .pointer (some ⟨g, off, none⟩)) {v : Value} (hy : a.eval y = v) {cs ns : Array Value}
    (hi : rs[i]? = some (g, cs)) (ht : OneTy P ty) (hf : off < cs.size) (hc : v.cells = #[v]) (h1 : v.oneCell' = true) (hn : cs.setIfInBounds off v = ns)
    (h : ∀ w', Own w0 w' (rs.set i (g, ns)) ss → K undef w') : Eff P o a w K := by
  have hh := hm.setCell i off v hi
  rw [hn] at hh
  exact Eff.skip (exec_setcell i hm ho hx hy hi ht hf hc h1) (h _ hh)
end
section
variable {P : Program} {w0 w : World} {rs : List (Nat × Array Value)} {ss : List Sl} {o : Oper} {a : Act}
theorem ld (i : Nat) (hm : Own w0 w rs ss) {ty : TypeId} {x : Operand} (ho : o.op = .load ty x) {g off : Nat} (hx : a.eval x = .pointer (some ⟨g, off, none⟩)) {cs : Array Value} {v : Value} (hi : rs[i]? = some (g, cs))
    (ht : OneTy P ty) (hv : cs[off]? = some v) : (execOp a.eval o).run P w = .ok (.value v) w := exec_loadcell' ho hx (hm.row i hi) ht hv
theorem lda (i : Nat) (hm : Own w0 w rs ss) {ty : TypeId} {x : Operand} (ho : o.op = .load ty x) {g : Nat} (hx : a.eval x = .pointer (some ⟨g, 0, none⟩)) {cs : Array Value} (hi : rs[i]? = some (g, cs)) (ht : AggTy P ty cs.size) :
    (execOp a.eval o).run P w = .ok (.value (.agg cs)) w := exec_load_all ho hx (hm.row i hi) ht
theorem ldp (i : Nat) (hm : Own w0 w rs ss) {ty : TypeId} {x : Operand} (ho : o.op = .load ty x) {g off : Nat} (hx : a.eval x = .pointer (some ⟨g, off, none⟩)) {cs vs : Array Value} (hi : rs[i]? = some (g, cs)) (hv : cs.extract off (off + vs.size) = vs) (ht : AggTy P ty vs.size) (hf : off + vs.size ≤ cs.size) :
    (execOp a.eval o).run P w = .ok (.value (.agg vs)) w := by
  have h := exec_load (P := P) (off := off) ho hx (hm.row i hi) ht hf
  rwa [hv] at h
end
end Go.Proofs.YtkpbhdhkdonghaaGreat

namespace Go.Proofs.YtkpbhdhkdonghaaGreat
open Go Go.RowKit
section
variable {P : Program} {ops : Array Oper} {Q : Exit → Act → World → Prop} {rest : List Oper} {a : Act} {w : World} {dst : Option Tmp} {ty : TypeId} {pos : String} {af : Array Edge} {g : Option (Nat × Bool)}
theorem gLd {t : TypeId} {x : Operand} (h : wpList P ops Q (⟨dst, .load t x, ty, pos, af, g⟩ :: rest) a w) : wpList P ops Q (⟨dst, .load t x, ty, pos, af, g⟩ :: rest) a w := h
theorem gSt {t : TypeId} {x : Operand} {y : Operand} (h : wpList P ops Q (⟨dst, .store t x y, ty, pos, af, g⟩ :: rest) a w) : wpList P ops Q (⟨dst, .store t x y, ty, pos, af, g⟩ :: rest) a w := h
theorem gAl {t : TypeId} (h : wpList P ops Q (⟨dst, .alloc t, ty, pos, af, g⟩ :: rest) a w) : wpList P ops Q (⟨dst, .alloc t, ty, pos, af, g⟩ :: rest) a w := h
theorem gBx {t : TypeId} {x : Operand} (h : wpList P ops Q (⟨dst, .box t x, ty, pos, af, g⟩ :: rest) a w) : wpList P ops Q (⟨dst, .box t x, ty, pos, af, g⟩ :: rest) a w := h
theorem gBu {t : TypeId} {ps : Array (Nat × Operand)} (h : wpList P ops Q (⟨dst, .build t ps, ty, pos, af, g⟩ :: rest) a w) : wpList P ops Q (⟨dst, .build t ps, ty, pos, af, g⟩ :: rest) a w := h
theorem gMs {t : TypeId} {x : Operand} {y : Operand} (h : wpList P ops Q (⟨dst, .makeSlice t x y, ty, pos, af, g⟩ :: rest) a w) : wpList P ops Q (⟨dst, .makeSlice t x y, ty, pos, af, g⟩ :: rest) a w := h
theorem gIa {t : TypeId} {x : Operand} {y : Operand} (h : wpList P ops Q (⟨dst, .indexAddr t x y, ty, pos, af, g⟩ :: rest) a w) : wpList P ops Q (⟨dst, .indexAddr t x y, ty, pos, af, g⟩ :: rest) a w := h
theorem gIx {t : TypeId} {x : Operand} {y : Operand} (h : wpList P ops Q (⟨dst, .index t x y, ty, pos, af, g⟩ :: rest) a w) : wpList P ops Q (⟨dst, .index t x y, ty, pos, af, g⟩ :: rest) a w := h
theorem gBo {b : BinOp} {t : TypeId} {x : Operand} {y : Operand} {u : TypeId} (h : wpList P ops Q (⟨dst, .binOp b t x y u, ty, pos, af, g⟩ :: rest) a w) : wpList P ops Q (⟨dst, .binOp b t x y u, ty, pos, af, g⟩ :: rest) a w := h
end
end Go.Proofs.YtkpbhdhkdonghaaGreat

namespace Go.Proofs.YtkpbhdhkdonghaaGreat
open Go Go.RowKit
def tab (n : Nat) (f : Nat → Int) : List Int := (List.range n).map f
theorem len_tab (n : Nat) (f : Nat → Int) : (tab n f).length = n := by simp [tab]
theorem gi_tab {n : Nat} (f : Nat → Int) {i : Nat} (h : i < n) : gi (tab n f) i = f i := by simp [gi, tab, h]
theorem tab_congr {n : Nat} {f g : Nat → Int} (h : ∀ i, i < n → f i = g i) : tab n f = tab n g := List.map_congr_left fun i hi => h i (List.mem_range.1 hi)
theorem set_tab {n : Nat} (f : Nat → Int) (i : Nat) (v : Int) : (tab n f).set i v = tab n fun j => if j = i then v else f j := by
  apply List.ext_getElem?
  intro j
  rw [List.getElem?_set]
  simp only [tab, List.getElem?_map, List.length_map, List.length_range]
  by_cases hj : j < n
  · rw [List.getElem?_range hj]
    by_cases e : i = j
    · subst e; simp [hj]
    · rw [if_neg e]; simp [show ¬ j = i from fun h => e h.symm]
  · rw [List.getElem?_eq_none (by simpa using hj)]
    by_cases e : i = j
    · subst e; simp [hj]
    · rw [if_neg e]; simp
theorem tab_zeros (n : Nat) : List.replicate n (0 : Int) = tab n fun _ => 0 := by
  apply List.ext_getElem?
  intro j
  simp [tab, List.getElem?_replicate]
  by_cases h : j < n
  · simp [h]
  · simp [h]
    try omega
theorem J_tab (k : IntKind) {n : Nat} (f g : Nat → Int) (i : Nat) (v : Int) (h : ∀ j, j < n → (if j = i then v else f j) = g j) : (J k (tab n f)).setIfInBounds i (.int k v) = J k (tab n g) := by
  rw [set_J, set_tab, tab_congr h]
theorem at_tab (k : IntKind) {n : Nat} (f : Nat → Int) {i : Nat} (h : i < n) : (J k (tab n f))[i]? = some (.int k (f i)) := by rw [at_J k _ i (by rw [len_tab]; exact h), gi_tab f h]
def eqn (l : List Int) (c : Nat) : Int := (l.countP fun x : Int => decide (x = (c : Int)) : Nat)
def lsn (l : List Int) (c : Nat) : Int := (l.countP fun x : Int => decide (x < (c : Int)) : Nat)
theorem eqn_snoc (l : List Int) (k : Nat) (h : k < l.length) (c : Nat) : eqn (l.take (k + 1)) c = eqn (l.take k) c + if gi l k = c then 1 else 0 := by
  rw [eqn, take_snoc_gi l k h, List.countP_append, eqn, List.countP_singleton]
  by_cases e : gi l k = c <;> simp [e]
theorem eqn_bound (l : List Int) (c : Nat) : 0 ≤ eqn l c ∧ eqn l c ≤ l.length := by
  have := List.countP_le_length (p := fun x : Int => decide (x = c)) (l := l)
  rw [eqn]; omega
theorem lsn_bound (l : List Int) (c : Nat) : 0 ≤ lsn l c ∧ lsn l c ≤ l.length := by
  have := List.countP_le_length (p := fun x : Int => decide (x < c)) (l := l)
  rw [lsn]; omega
theorem lsn_zero {l : List Int} (h : Bytes l) : lsn l 0 = 0 := by
  rw [lsn, List.countP_eq_zero.2]
  · rfl
  · intro x hx; have := h x hx; simp; omega
theorem lsn_step (l : List Int) (c : Nat) : lsn l (c + 1) = eqn l c + lsn l c := by
  induction l with
  | nil => rfl
  | cons a l ih =>
    simp only [lsn, eqn, List.countP_cons] at *
    generalize l.countP (fun x : Int => decide (x < ((c + 1 : Nat) : Int))) = p at *
    generalize l.countP (fun x : Int => decide (x = (c : Int))) = q at *
    generalize l.countP (fun x : Int => decide (x < (c : Int))) = r at *
    simp only [decide_eq_true_eq]
    by_cases h1 : a = c
    · rw [if_pos h1, if_pos (by omega), if_neg (by omega)]; omega
    · rw [if_neg h1]
      by_cases h2 : a < c
      · rw [if_pos h2, if_pos (by omega)]; omega
      · rw [if_neg h2, if_neg (by omega)]; omega
def aft (l : List Int) (k : Nat) : Int := 1 + lsn l (gi l k).toNat + eqn (l.take k) (gi l k).toNat
def colp (index row : Nat) : Nat := if index < row then row - 1 else row
def rowsOf (l : List Int) (index : Nat) (r : Nat) : Int := if r = index then 0 else aft l (colp index r)
set_option maxRecDepth 100000 in
theorem place_any (ad : Option Addr) (cp n index row : Nat) (w : World) (h1 : index ≤ n) (h2 : row ≤ n) (hn : n ≤ 10000000) : Calls Tryz.prog 72 #[.slice ad n cp, .int .i64 index, .int .i64 row] w fun e w' => (e = .returned (if row = index then .tuple #[.int .i64 0, .bool false] else .tuple #[.int .i64 (colp index row), .bool true])) ∧ w' = w := by
  have q1 : decide ((index : Int) < 0) = false := decide_eq_false (by omega)
  have q2 : decide ((n : Int) < index) = false := decide_eq_false (by omega)
  have q3 : decide ((row : Int) < 0) = false := decide_eq_false (by omega)
  have p2 : decide (n < index) = false := decide_eq_false (by omega)
  have p4 : decide (n < row) = false := decide_eq_false (by omega)
  have q4 : decide ((n : Int) < row) = false := decide_eq_false (by omega)
  rw [colp]
  by_cases h : row = index
  · subst h
    rw [if_pos rfl]
    clear h1 h2 hn
    go_enter Tryz.func72, Tryz.ntmps72
    go_wp2
    go_ret2
    exact ⟨rfl, rfl⟩
  · rw [if_neg h]
    have q5 : ((row : Int) == index) = false := by simp; omega
    by_cases hl : index < row
    · have q6 : decide ((index : Int) < row) = true := decide_eq_true (by omega)
      have p6 : decide (index < row) = true := decide_eq_true hl
      have w1 : IntKind.i64.wrap ((row : Int) - 1) = ((row - 1 : Nat) : Int) := by rw [IntWalk.i64_in _ (by omega)]; omega
      rw [if_pos hl]
      clear h1 h2 hn h hl
      go_enter Tryz.func72, Tryz.ntmps72
      go_wp2
      go_ret2
      exact ⟨rfl, rfl⟩
    · have q6 : decide ((index : Int) < row) = false := decide_eq_false (by omega)
      have p6 : decide (index < row) = false := decide_eq_false hl
      rw [if_neg hl]
      clear h1 h2 hn h hl
      go_enter Tryz.func72, Tryz.ntmps72
      go_wp2
      go_ret2
      exact ⟨rfl, rfl⟩
end Go.Proofs.YtkpbhdhkdonghaaGreat

namespace Go.Proofs.YtkpbhdhkdonghaaGreat
open Go Go.RowKit
theorem exec_make {P : Program} {w : World} {o : Oper} {a : Act} (n : Nat) {t e : TypeId} {i : TypeInfo} {z : Value} {bytes : Nat} {x y : Operand}
    (ho : o.op = .makeSlice t x y) (he : ElTy P t e i z bytes) (hx : a.eval x = .int .i64 n) (hy : a.eval y = .int .i64 n) (hb : (bytes : Int) * n ≤ 281474976710656) (hn : (n : Int) ≤ 9223372036854775807) :
    (execOp a.eval o).run P w = .ok (.value (.slice (some ⟨w.heap.size, 0, none⟩) n n)) (w.alloc (.cells (List.replicate n z).toArray e)) := by
  have hr := run_make (P := P) w t e i z he.under he.info he.zero .i64 .i64 n n (by omega) (Int.le_refl _) (by rw [he.bytes]; exact hb) hn
  have hc : madeCells #[z] n = (List.replicate n z).toArray := by
    apply Array.ext
    · simp [madeCells]
    · intro i h1 h2
      have e : i % 1 = 0 := Nat.mod_one i
      simp [madeCells, e]
  unfold execOp
  rw [he.cell, he.size, Nat.mul_one, Int.toNat_natCast, hc] at hr
  simp only [ho, hx, hy, Sem.run_bind, hr, Result.andThen_ok, Sem.run_pure]
theorem wpList_make_o {P : Program} {ops : Array Oper} {rest : List Oper} {o : Oper} {a : Act} {w0 w : World} {Q : Exit → Act → World → Prop} {rs : List (Nat × Array Value)} {ss : List Sl} (n : Nat) (hm : Own w0 w rs ss) (hgd : Region.wanted o (yielded ops a.tmps) = true) {t e : TypeId} {i : TypeInfo} {z : Value} {bytes : Nat} {x y : Operand}
    (ho : o.op = .makeSlice t x y) (he : ElTy P t e i z bytes) (hx : a.eval x = .int .i64 n) (hy : a.eval y = .int .i64 n) (hb : (bytes : Int) * n ≤ 281474976710656) (hn : (n : Int) ≤ 9223372036854775807)
    (h : ∀ w' g, Own w0 w' ((g, (List.replicate n z).toArray) :: rs) ss → wpList P ops Q rest (a.put o.dst (.slice (some ⟨g, 0, none⟩) n n)) w') : wpList P ops Q (o :: rest) a w :=
  wpList_run hgd (exec_make n ho he hx hy hb hn) (h _ _ (hm.alloc _ e))
theorem B_zeros (n : Nat) : (List.replicate n (Value.int .u8 0)).toArray = B (List.replicate n 0) := by simp [B, vs]
set_option maxRecDepth 100000 in
set_option maxHeartbeats 1000000 in
theorem anew_ok (b : Nat) (w0 w : World) (rs : List (Nat × Array Value)) (ss : List Sl) (hm : Own w0 w rs ss) (h1 : 1 ≤ b) (h2 : b ≤ 1048576) : Calls Tryz.prog 22 #[.int .i64 b] w fun e w' => ∃ ga gd, (e = .returned (.tuple #[.pointer (some ⟨ga, 0, none⟩), .int .i64 0])) ∧ Own w0 w' ((ga, AR (.slice (some ⟨gd, 0, none⟩) b b) 0 0) :: (gd, B (List.replicate b 0)) :: rs) ss := by
  have q1 : decide ((b : Int) < 1) = false := decide_eq_false (by omega)
  have q2 : decide (1048576 < (b : Int)) = false := decide_eq_false (by omega)
  obtain ⟨i5, hE⟩ := el24
  have HE := Lib.hid hE
  clear hE
  go_enter Tryz.func22, Tryz.ntmps22
  go_wp2_with (first
    | (refine wpList_make_o b hm rfl rfl HE.out rfl rfl (by omega) (by omega) ?_; intro w1 gd hm1; rw [B_zeros] at hm1; clear hm)
    | (refine wpList_box_o (cs := AR (.slice (some ⟨gd, 0, none⟩) b b) 0 0) hm1 rfl rfl rfl ?_; intro w2 ga hm2; clear hm1))
  go_ret2
  exact ⟨ga, gd, rfl, hm2⟩
def putL8 (l : List Int) (p : Nat) (b : List Int) : List Int := l.take p ++ b ++ l.drop (p + b.length)
theorem exec_copy8 {w0 w : World} {rs : List (Nat × Array Value)} {ss : List Sl} {o : Oper} {a : Act} (i : Nat) (hm : Own w0 w rs ss) {x y : Operand} (ho : o.op = .call { callee := .builtin .copy, args := #[x, y], argTypes := #[22, 22] }) {g p dl dc sc : Nat} {A : Addr} {l b : List Int} (hx : a.eval x = .slice (some ⟨g, p, none⟩) dl dc) (hy : a.eval y = .slice (some A) b.length sc) (hi : rs[i]? = some (g, B l)) (hs : ∀ j u, (vs .u8 b)[j]? = some u → w.cell? (A.add j) = some u) (h0 : b.length ≤ dl) (hn : p + b.length ≤ l.length) :
    ∃ w', (execOp a.eval o).run Tryz.prog w = .ok (.value (.int .i64 b.length)) w' ∧ Own w0 w' (rs.set i (g, B (putL8 l p b))) ss := by
  obtain ⟨t, ht⟩ := hm.row i hi
  obtain ⟨i5, hE⟩ := el24
  have hr := run_copy_row (P := Tryz.prog) w 22 22 o.type 5 g p dl dc A b.length sc (B l) t (vs .u8 b) Tryz.underlying22 (by rw [hE.info]; simp [hE.size]) ht (by rw [length_vs]; exact (Nat.min_eq_left h0).symm) hs (by rw [length_vs, size_B]; exact hn) (vs_one _ _)
  have hB : ((B l).toList.take p ++ vs .u8 b ++ (B l).toList.drop (p + (vs .u8 b).length)).toArray = B (putL8 l p b) := by
    simp [B, vs, putL8, List.map_take, List.map_drop]
  rw [hB, length_vs] at hr
  refine ⟨w.setRow g (B (putL8 l p b)), ?_, hm.setRow i _ hi⟩
  unfold execOp
  simp only [ho, resolve, invoke, builtin, Sem.run_bind, Sem.run_pure, Result.andThen_ok, List.map_toArray, List.map_cons, List.map_nil, hx, hy, hr]
  rfl
theorem oneT_copy8 {ops : Array Oper} {Q : Exit → Act → World → Prop} {k : Nat} {t : OT} {S : World → Prop} {w0 w : World} {rs : List (Nat × Array Value)} {ss : List Sl} {o : Oper} {a : Act} (i : Nat) (hm : Own w0 w rs ss) (ho' : ops.toList[k]? = some o) (hw : Region.wanted o (yielded ops a.tmps) = true) {x y : Operand} (ho : o.op = .call { callee := .builtin .copy, args := #[x, y], argTypes := #[22, 22] }) {g p dl dc sc : Nat} {A : Addr} {l b : List Int} (hx : a.eval x = .slice (some ⟨g, p, none⟩) dl dc) (hy : a.eval y = .slice (some A) b.length sc) (hi : rs[i]? = some (g, B l)) (hs : ∀ j u, (vs .u8 b)[j]? = some u → w.cell? (A.add j) = some u) (h0 : b.length ≤ dl) (hn : p + b.length ≤ l.length)
    (hS : ∀ w', Own w0 w' (rs.set i (g, B (putL8 l p b))) ss → S w') (h : ∀ w', Own w0 w' (rs.set i (g, B (putL8 l p b))) ss → wpT Tryz.prog ops Q t S (a.put o.dst (.int .i64 b.length)) w') : oneT Tryz.prog ops Q k t S a w := by
  obtain ⟨w', hr, h2⟩ := exec_copy8 i hm ho hx hy hi hs h0 hn
  exact oneT_run ho' hw hr (hS _ h2) (h _ h2)
theorem exec_sub_lo {P : Program} {w : World} {o : Oper} {a : Act} {t e : TypeId} {i : TypeInfo} {z : Value} {bytes : Nat} {x lo : Operand} (ho : o.op = .slice t x (some lo) none none) (he : ElTy P t e i z bytes) {g n c l : Nat} (hx : a.eval x = .slice (some ⟨g, 0, none⟩) n c) (hl : a.eval lo = .int .i64 l) (h1 : l < c) (h2 : l ≤ n) (h3 : n ≤ c) :
    (execOp a.eval o).run P w = .ok (.value (.slice (some ⟨g, l, none⟩) (n - l) (c - l))) w := by
  have h := exec_sub (P := P) (w := w) (l := l) (h := n) ho he hx (.inr ⟨.i64, by simp [hl]⟩) (.inl ⟨rfl, rfl⟩) h2 h3
  rw [h, subAt_mid _ _ _ h1]
set_option maxRecDepth 100000 in
set_option maxHeartbeats 4000000 in
theorem store_ok (ga gd a n at_ : Nat) (l b : List Int) (A : Addr) (cb : Nat) (live peak : Int) (w0 w : World) (rs : List (Nat × Array Value)) (ss : List Sl) (hm : Own w0 w ((ga, AR (.slice (some ⟨gd, 0, none⟩) l.length l.length) live peak) :: (gd, B l) :: rs) ss) (hs : ∀ j u, (vs .u8 b)[j]? = some u → w.cell? (A.add j) = some u) (h1 : (a : Int) + n ≤ live) (h2 : live ≤ l.length) (h3 : l.length ≤ 1048576) (h4 : at_ + b.length ≤ n) (h5 : 0 < b.length) : Calls Tryz.prog 24 #[.pointer (some ⟨ga, 0, none⟩), .agg (SP a n), .int .i64 at_, .slice (some A) b.length cb] w fun e w' => (e = .returned (.bool true)) ∧ Own w0 w' ((ga, AR (.slice (some ⟨gd, 0, none⟩) l.length l.length) live peak) :: (gd, B (putL8 l (a + at_) b)) :: rs) ss := by
  have CH : Hid (∀ W, RowIs W ga (AR (.slice (some ⟨gd, 0, none⟩) l.length l.length) live peak) → Calls Tryz.prog 64 #[.pointer (some ⟨ga, 0, none⟩), .agg (SP a n)] W fun e w' => (e = .returned (.bool true)) ∧ Below W.heap.size W w') := Lib.hid fun W h => has_ok ga _ live peak a n W h (by omega) (by omega) h1 (by omega)
  have q1 : decide ((at_ : Int) < 0) = false := decide_eq_false (by omega)
  have q2 : decide ((n : Int) - b.length < at_) = false := decide_eq_false (by omega)
  have w1 : IntKind.i64.wrap ((n : Int) - b.length) = (n : Int) - b.length := IntWalk.i64_in _ (by omega)
  obtain ⟨e, hee⟩ : ∃ e, e = a + at_ := ⟨_, rfl⟩
  have w2 : IntKind.i64.wrap ((a : Int) + at_) = (e : Int) := by rw [IntWalk.i64_in _ (by omega), hee]; push_cast; rfl
  rw [← hee]
  have C1 : Hid (e < l.length ∧ b.length ≤ l.length - e ∧ e + b.length ≤ l.length) := Lib.hid (by omega)
  have HB : Hid (∀ W, Below w.heap.size w W → ∀ j u, (vs .u8 b)[j]? = some u → W.cell? (A.add j) = some u) := Lib.hid fun W hW j u hj => (hW.cell (block_lt_of_cell (hs j u hj))).trans (hs j u hj)
  obtain ⟨i5, hE⟩ := el24
  have HE := Lib.hid hE
  clear hE h1 h2 h3 h4 h5 hs hee
  have hb0 : Below w.heap.size w w := Below.refl _ _
  go_enter Tryz.func24, Tryz.ntmps24
  go_wp2_with (first
    | (refine wpList_run rfl (show (execOp _ _).run Tryz.prog w = .ok (.value (.pointer (some ⟨w.heap.size, 0, none⟩))) (w.alloc (.cells (SP a n) 50)) from rfl) ?_; have hm1 := hm.alloc (SP a n) 50; have hb1 : Below w.heap.size w (w.alloc (.cells (SP a n) 50)) := (Below.refl _ _).alloc (Nat.le_refl _) _; have HS1 := Lib.hid (HB.out _ hb1); clear hm hb0 hb1; generalize w.alloc (.cells (SP a n) 50) = w3 at hm1 HS1 ⊢; generalize w.heap.size = g at hm1 ⊢)
    | (refine wpList_load_all rfl rfl rfl (hm1.row 0 rfl) (aggSP _ _) ?_)
    | (go_at_call 64; have _t := hm1; refine (CH.out _ (hm1.row 1 rfl)).mono ?_; rintro x w2 ⟨rfl, hb2⟩; have hm2 := hm1.call hb2; have HS2 : Hid (∀ j u, (vs .u8 b)[j]? = some u → w2.cell? (A.add j) = some u) := Lib.hid (fun j u hj => (hb2.cell (block_lt_of_cell (HS1.out j u hj))).trans (HS1.out j u hj)); clear hm1 HS1)
    | (refine wpList_run rfl (exec_loadcell' (off := 1) rfl rfl (hm2.row 0 rfl) one3 (SP1 _ _)) ?_))
  refine wp_region_T (rdt 0 10 (.one 10 .done)) (fun W => RowIs W g (SP a n) ∧ RowIs W ga (AR (.slice (some ⟨gd, 0, none⟩) l.length l.length) live peak)) rfl (by kernel_rfl) rfl (by kernel_rfl) (fun _ _ d _ _ h => by cases d <;> exact h) ⟨(hm2.drawn (w2.drawn + 1)).row 0 rfl, (hm2.drawn (w2.drawn + 1)).row 1 rfl⟩ ?_
  have k1 := hm2.drawn (w2.drawn + 1)
  have HS3 : Hid (∀ j u, (vs .u8 b)[j]? = some u → ({ w2 with drawn := w2.drawn + 1 } : World).cell? (A.add j) = some u) := Lib.hid HS2.out
  generalize ({ w2 with drawn := w2.drawn + 1 } : World) = wn at k1 HS3 ⊢
  clear hm2 HS2
  simp only [rdt]
  repeat ((first
    | (refine T_read rfl rfl (fun W hW => exec_loadcell' (off := 0) rfl rfl hW.2 one22 (AR0 _ _ _)) ?_)
    | (refine T_read rfl rfl (fun W hW => exec_loadcell' (off := 0) rfl rfl hW.1 one3 (SP0 _ _)) ?_)
    | (refine T_read rfl rfl (fun W hW => exec_sub_lo (l := e) rfl HE.out rfl rfl C1.out.1 (Nat.le_of_lt C1.out.1) (Nat.le_refl _)) ?_)
    | (refine T_read rfl rfl (fun W hW => by go_simp; rfl) ?_)); (try simp only [Act.put, List.setIfInBounds_toArray, List.set_cons_zero, List.set_cons_succ]))
  refine T_one ?_
  refine oneT_copy8 2 k1 rfl rfl rfl rfl rfl rfl HS3.out C1.out.2.1 C1.out.2.2 (fun w6 k2 => ⟨k2.row 0 rfl, k2.row 1 rfl⟩) (fun w6 k2 => ?_)
  simp only [List.set] at k2
  clear k1
  simp only [Act.put, List.setIfInBounds_toArray, List.set_cons_zero, List.set_cons_succ]
  refine T_done ?_
  go_simp
  go_wp2
  go_ret
  exact ⟨rfl, k2.dropRow⟩
end Go.Proofs.YtkpbhdhkdonghaaGreat

namespace Go.Proofs.YtkpbhdhkdonghaaGreat
open Go Go.RowKit
section
variable {P : Program} {w0 w : World} {rs : List (Nat × Array Value)} {ss : List Sl} {o : Oper} {a : Act}
end
def puts (cs : Array Value) : Nat → List Value → Array Value
  | _, [] => cs
  | o, v :: r => puts (cs.setIfInBounds o v) (o + 1) r
theorem get_puts : ∀ (vs : List Value) (cs : Array Value) (o i : Nat), (puts cs o vs)[i]? = if i < cs.size ∧ o ≤ i ∧ i < o + vs.length then vs[i - o]? else cs[i]?
  | [], cs, o, i => by rw [puts, if_neg (by rw [List.length_nil]; omega)]
  | v :: vs, cs, o, i => by
    rw [puts, get_puts vs]
    simp only [Array.size_setIfInBounds, List.length_cons]
    by_cases h1 : i < cs.size ∧ o + 1 ≤ i ∧ i < o + 1 + vs.length
    · rw [if_pos h1, if_pos (by omega), show i - o = (i - (o + 1)) + 1 by omega, List.getElem?_cons_succ]
    · rw [if_neg h1]
      by_cases h2 : i = o
      · subst h2
        by_cases h3 : i < cs.size
        · rw [if_pos (by omega), Nat.sub_self, List.getElem?_cons_zero, Array.getElem?_setIfInBounds_self_of_lt h3]
        · rw [if_neg (by omega), Array.getElem?_setIfInBounds]; simp [h3, Array.getElem?_eq_none (Nat.le_of_not_lt h3)]
      · rw [if_neg (by omega), Array.getElem?_setIfInBounds_ne (by omega)]
theorem splice_puts (cs : Array Value) (o : Nat) (vs : List Value) (h : o + vs.length ≤ cs.size) : splice cs o vs.toArray = puts cs o vs := by
  apply Array.ext_getElem?
  intro i
  rw [get_puts, splice]
  simp only [List.getElem?_toArray, List.size_toArray]
  by_cases h1 : i < cs.size ∧ o ≤ i ∧ i < o + vs.length
  · rw [if_pos h1, List.append_assoc, List.getElem?_append_right (by simp; omega), List.getElem?_append_left (by simp; omega)]
    congr 1; simp; omega
  · rw [if_neg h1]
    by_cases h2 : i < o
    · rw [List.append_assoc, List.getElem?_append_left (by simp; omega), List.getElem?_take_of_lt h2]; simp
    · by_cases h3 : i < cs.size
      · rw [List.getElem?_append_right (by simp; omega), List.getElem?_drop]; simp; congr 1; omega
      · rw [List.getElem?_eq_none (by simp; omega), Array.getElem?_eq_none (by omega)]
section
variable {P : Program} {w0 w : World} {rs : List (Nat × Array Value)} {ss : List Sl} {o : Oper} {a : Act} {K : Value → World → Prop}
end
end Go.Proofs.YtkpbhdhkdonghaaGreat

namespace Go.Proofs.YtkpbhdhkdonghaaGreat
open Go Go.RowKit
section
variable {P M M2 S : List Value} {off i n : Nat} {v : Value}
theorem get3 (hP : P.length = off) (hv : M[i]? = some v) : (P ++ (M ++ S)).toArray[off + i]? = some v := by
  subst hP
  have hi := (List.getElem?_eq_some_iff.1 hv).1
  rw [List.getElem?_toArray, List.getElem?_append_right (by omega), Nat.add_sub_cancel_left, List.getElem?_append_left hi, hv]
theorem set3 (hP : P.length = off) (hi : i < M.length) (v : Value) : (P ++ (M ++ S)).toArray.setIfInBounds (off + i) v = (P ++ (M.set i v ++ S)).toArray := by
  subst hP
  apply Array.ext'
  simp only [List.setIfInBounds_toArray]
  rw [List.set_append_right _ _ (by omega), Nat.add_sub_cancel_left, List.set_append_left _ _ hi]
theorem ext3 (hP : P.length = off) (hn : M.length = n) : (P ++ (M ++ S)).toArray.extract off (off + n) = M.toArray := by
  subst hP hn
  apply Array.ext'
  simp
theorem spl3 (hP : P.length = off) (hm : M.length = M2.length) : splice (P ++ (M ++ S)).toArray off M2.toArray = (P ++ (M2 ++ S)).toArray := by
  subst hP
  apply Array.ext'
  have e : (P ++ (M ++ S)).drop (P.length + M2.length) = S := by
    rw [← hm, ← List.drop_drop, List.drop_left, List.drop_left]
  simp [splice, ← hm]
end
end Go.Proofs.YtkpbhdhkdonghaaGreat

namespace Go.Proofs.YtkpbhdhkdonghaaGreat
open Go Go.RowKit
def But (w0 : World) (g : Nat) (rs : List (Nat × Array Value)) (ss : List Sl) (W : World) : Prop := ∃ cs, Own w0 W ((g, cs) :: rs) ss
theorem But.mk {w0 W : World} {g : Nat} {cs : Array Value} {rs : List (Nat × Array Value)} {ss : List Sl} (h : Own w0 W ((g, cs) :: rs) ss) : But w0 g rs ss W := ⟨cs, h⟩
theorem But.own {w0 W : World} {g : Nat} {rs : List (Nat × Array Value)} {ss : List Sl} (h : But w0 g rs ss W) : Own w0 W rs ss := by
  obtain ⟨cs, h⟩ := h
  exact h.dropRow
theorem wp_region_KB {P : Program} {Q : Exit → Act → World → Prop} {id : Nat} {l : List Oper} {a : Act} {w w0 : World} {g : Nat} {cs : Array Value} {rs : List (Nat × Array Value)} {ss : List Sl} (hO : Own w0 w ((g, cs) :: rs) ss) (k : Nat) (t : KT) (hm : P.follows .mixedOrders = true) (hs : Region.noSelect l.toArray = true) (hlen : t.depth = l.toArray.size)
    (hB : (!(Array.replicate l.toArray.size false).getD k false && okK l.toArray k (ancOf l.toArray k) (Array.replicate l.toArray.size false) t) = true) (hQ : ∀ c a d v w, Q (.panic c) (a.put d v) w → Q (.panic c) a w)
    (h : ∀ w', Own w0 w' ((g, cs) :: rs) ss → wpK P l.toArray Q t (But w0 g rs ss) a w') : (Code.region id l.toArray true).wp P Q a w :=
  wp_region_K k t _ hm hs hlen hB hQ ⟨_, hO.drawn _⟩ (h _ (hO.drawn _))
end Go.Proofs.YtkpbhdhkdonghaaGreat
