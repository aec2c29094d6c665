/-
  States: a struct of a list of 256 bytes and some cells behind it: its loads, stores, building and comparison.
-/
import Derived.Test.YtaccjnekonmkoaaOrdOwn
import Derived.Test.YtaccjnekonmkoaaMtfC
import Derived.Laws.Tables
import Derived.Laws.StructEq
namespace Go.Proofs.Ytaccjnekonmkoaa
open Go Go.RowKit

/-- The list l, and the cells t behind it. -/
def X (l : List Int) (t : List Value) : Array Value := (vs .u8 l ++ t).toArray
theorem size_X (l : List Int) (t : List Value) : (X l t).size = l.length + t.length := by simp [X, length_vs]
theorem X_one (l : List Int) (t : List Value) (h : ∀ v ∈ t, v.oneCell' = true) : ∀ v ∈ X l t, v.oneCell' = true := by
  intro v hv
  have hv : v ∈ vs .u8 l ++ t := by simpa [X] using hv
  rcases List.mem_append.1 hv with hv | hv
  · exact vs_one .u8 l v hv
  · exact h v hv
theorem extract_X {l : List Int} (t : List Value) (hl : l.length = 256) : (X l t).extract 0 256 = B l := by
  apply Array.ext'
  have h : (vs .u8 l).length = 256 := by rw [length_vs, hl]
  simp [X, B, h]
theorem get_X {l : List Int} (t : List Value) (hl : l.length = 256) (i : Nat) : (X l t)[256 + i]? = t[i]? := by
  have h : (vs .u8 l).length = 256 := by rw [length_vs, hl]
  simp only [X, List.getElem?_toArray]
  rw [List.getElem?_append_right (by omega), h, Nat.add_sub_cancel_left]
theorem get_Xl {l : List Int} (t : List Value) (hl : l.length = 256) (i : Nat) (hi : i < 256) : (X l t)[i]? = some (.int .u8 (gi l i)) := by
  have h : (vs .u8 l).length = 256 := by rw [length_vs, hl]
  simp only [X, List.getElem?_toArray]
  rw [List.getElem?_append_left (by omega), get_vs .u8 l i (by omega)]
theorem splice_X {l m : List Int} (t : List Value) (hl : l.length = 256) (hm : m.length = 256) : splice (X l t) 0 (B m) = X m t := by
  apply Array.ext'
  have h : (vs .u8 l).length = 256 := by rw [length_vs, hl]
  have h2 : (vs .u8 m).length = 256 := by rw [length_vs, hm]
  have e : (X l t).toList.drop (0 + (B m).size) = t := by
    rw [size_B, hm]
    show (vs .u8 l ++ t).drop (0 + 256) = t
    rw [Nat.zero_add, ← h, List.drop_left]
  simp only [splice, e]
  simp [X, B]
theorem set_X {l : List Int} (t : List Value) (hl : l.length = 256) (i : Nat) (v : Value) : (X l t).setIfInBounds (256 + i) v = X l (t.set i v) := by
  apply Array.ext'
  have h : (vs .u8 l).length = 256 := by rw [length_vs, hl]
  simp only [X, List.setIfInBounds_toArray]
  rw [List.set_append_right _ _ (by omega), h, Nat.add_sub_cancel_left]
theorem part_list {P : Program} {ty : TypeId} {w : World} {l : List Int} (t : List Value) (ht : AggTy P ty 256) (hl : l.length = 256) : (part ty (X l t) 0).run P w = .ok (.agg (B l)) w := by
  cases hq : P.info? ty with
  | none => have := ht.size; simp [hq] at this
  | some i =>
    have hs : i.size = 256 := by have := ht.size; simpa [hq] using this
    simp [part, ht.agg, sizeOf, typeInfo, hq, hs, extract_X t hl]
theorem part_cell {P : Program} {ty : TypeId} {w : World} {l : List Int} {t : List Value} (ht : OneTy P ty) (hl : l.length = 256) {i j : Nat} {v : Value} (hj : j = 256 + i) (hv : t[i]? = some v) : (part ty (X l t) j).run P w = .ok v w := by
  subst hj
  simp [part, ht.1, get_X t hl, hv]
/-- Two structs, the list first, compared: the list, then the cells. -/
theorem run_eqList {P : Program} {w : World} {d : Nat} {f : Field} {fs : List Field} {l m : List Int} {s t : List Value} (hn : f.name ≠ "_") (ho : f.offset = 0) (ht : AggTy P f.type 256) {e : TypeId} {i : TypeInfo} (hu : P.underlying f.type = some (.array 256 e)) (he : P.underlying e = some (.int .u8)) (hi : P.info? e = some i) (hc : P.cellsOf e = 1)
    (hl : l.length = 256) (hm : m.length = 256) {b : Bool} (hr : (Op.eqFields (d + 2) (X l s) (X m t) fs).run P w = .ok b w) :
    (Op.eqFields (d + 2) (X l s) (X m t) (f :: fs)).run P w = .ok ((l == m) && b) w := by
  have h := run_equalIn_ints (P := P) (w := w) d hu he hi hc l m hl hm
  simp only [Op.eqFields, ne_eq, hn, not_false_eq_true, if_true, ho, Sem.run_bind, part_list s ht hl, part_list t ht hm, Result.andThen_ok]
  rw [show (Op.equalIn (d + 2) f.type (.agg (B l)) (.agg (B m))).run P w = .ok (l == m) w from h]
  cases hb : (l == m) <;> simp [hr]
theorem run_eqCell {P : Program} {w : World} {d : Nat} {f : Field} {fs : List Field} {l m : List Int} {s t : List Value} (hn : f.name ≠ "_") (ht : OneTy P f.type) {i : Nat} (ho : f.offset = 256 + i) {u v : Value} (hu : s[i]? = some u) (hv : t[i]? = some v) (hl : l.length = 256) (hm : m.length = 256)
    {a b : Bool} (ha : (Op.equalIn (d + 2) f.type u v).run P w = .ok a w) (hr : (Op.eqFields (d + 2) (X l s) (X m t) fs).run P w = .ok b w) :
    (Op.eqFields (d + 2) (X l s) (X m t) (f :: fs)).run P w = .ok (a && b) w := by
  simp only [Op.eqFields, ne_eq, hn, not_false_eq_true, if_true, Sem.run_bind, part_cell ht hl ho hu, part_cell ht hm ho hv, Result.andThen_ok, ha]
  cases a <;> simp [hr]

/-! ### The encoder's state -/
/-- The encoder's state: the list, and the run. -/
def EV (l : List Int) (r : Int) : Array Value := X l [.int .i64 r]
theorem size_EV {l : List Int} (r : Int) (hl : l.length = 256) : (EV l r).size = 257 := by rw [EV, size_X, hl]; rfl
theorem agg57 : AggTy Try.prog 57 257 := AggTy.mk' Try.underlying57 rfl (by kernel_rfl)
theorem aggE {l : List Int} (r : Int) (hl : l.length = 256) : AggTy Try.prog 57 (EV l r).size := by rw [size_EV r hl]; exact agg57
theorem EV_one (l : List Int) (r : Int) : ∀ v ∈ EV l r, v.oneCell' = true := X_one l _ (fun v hv => by rw [List.mem_singleton.1 hv]; rfl)
theorem extract_EV {l : List Int} (r : Int) (hl : l.length = 256) : (EV l r).extract 0 (0 + (B l).size) = B l := by rw [size_B, hl]; exact extract_X _ hl
theorem run_EV {l : List Int} (r : Int) (hl : l.length = 256) : (EV l r)[256]? = some (.int .i64 r) := get_X (l := l) [.int .i64 r] hl 0
theorem splice_EV {l m : List Int} (r : Int) (hl : l.length = 256) (hm : m.length = 256) : splice (EV l r) 0 (B m) = EV m r := splice_X _ hl hm
theorem set_EV {l : List Int} (r s : Int) (hl : l.length = 256) : (EV l r).setIfInBounds 256 (.int .i64 s) = EV l s := set_X (l := l) [.int .i64 r] hl 0 (.int .i64 s)
theorem zero57 (w : World) : (zeroValue 57).run Try.prog w = .ok (.agg (EV zeros 0)) w := by kernel_rfl
theorem eq57 {l m : List Int} (r s : Int) (w : World) (hl : l.length = 256) (hm : m.length = 256) : (Op.equalIn 10000 57 (.agg (EV l r)) (.agg (EV m s))).run Try.prog w = .ok ((l == m) && (r == s)) w := by
  obtain ⟨i5, hi5⟩ := info5
  have hf : (Try.prog.fieldsOf 57).toList.map (fun f => (f.name, f.type, f.offset)) = [("List", 23, 0), ("Run", 3, 256)] := by kernel_rfl
  rw [run_equalIn_struct w 9999 57 _ _ (by kernel_rfl) (by kernel_rfl)]
  generalize (Try.prog.fieldsOf 57).toList = fs at hf ⊢
  rcases fs with _ | ⟨f, _ | ⟨g, _ | ⟨z, t⟩⟩⟩
  · simp at hf
  · simp at hf
  · simp only [List.map_cons, List.map_nil, List.cons.injEq, Prod.mk.injEq, and_true] at hf
    obtain ⟨⟨f1, f2, f3⟩, g1, g2, g3⟩ := hf
    rw [show (9999 : Nat) = 9997 + 2 from rfl]
    have h2 : (Op.eqFields (9997 + 2) (EV l r) (EV m s) [g]).run Try.prog w = .ok ((r == s) && true) w :=
      run_eqCell (l := l) (m := m) (s := [.int .i64 r]) (t := [.int .i64 s]) (by rw [g1]; decide) (by rw [g2]; exact one3) (i := 0) (by rw [g3]) rfl rfl hl hm (by rw [g2, run_equalIn_int w _ 3 .i64 .i64 r s Try.underlying3]) (by simp [Op.eqFields])
    have h1 := run_eqList (P := Try.prog) (w := w) (d := 9997) (f := f) (fs := [g]) (s := [.int .i64 r]) (t := [.int .i64 s]) (by rw [f1]; decide) f3 (by rw [f2]; exact agg23) (e := 5) (by rw [f2]; exact Try.underlying23) Try.underlying5 hi5 (by kernel_rfl) hl hm h2
    rw [EV, EV]
    rw [h1, Bool.and_true]
  · simp at hf
theorem exec_eql57 {o : Oper} {a : Act} {w : World} {t' : TypeId} {x y : Operand} (ho : o.op = .binOp .eql 57 x y t') {l m : List Int} {r s : Int} (hx : a.eval x = .agg (EV l r)) (hy : a.eval y = .agg (EV m s)) (hl : l.length = 256) (hm : m.length = 256) {b : Bool} (hb : ((l == m) && (r == s)) = b) :
    (execOp a.eval o).run Try.prog w = .ok (.value (.bool b)) w := by
  subst hb
  unfold execOp
  simp only [ho, hx, hy, Sem.run_bind, run_eqGuard_agg w .eql 57 x y _ _ (by kernel_rfl : Try.prog.eqGuardType Try.prog.depth 57 = false), Result.andThen_ok, run_eql_struct, eq57 r s w hl hm, Sem.run_pure]
theorem exec_neq57 {o : Oper} {a : Act} {w : World} {t' : TypeId} {x y : Operand} (ho : o.op = .binOp .neq 57 x y t') {l m : List Int} {r s : Int} (hx : a.eval x = .agg (EV l r)) (hy : a.eval y = .agg (EV m s)) (hl : l.length = 256) (hm : m.length = 256) {b : Bool} (hb : (!((l == m) && (r == s))) = b) :
    (execOp a.eval o).run Try.prog w = .ok (.value (.bool b)) w := by
  subst hb
  unfold execOp
  simp only [ho, hx, hy, Sem.run_bind, run_eqGuard_agg w .neq 57 x y _ _ (by kernel_rfl : Try.prog.eqGuardType Try.prog.depth 57 = false), Result.andThen_ok, run_neq_struct, eq57 r s w hl hm, Sem.run_pure]
theorem fill_list (l : List Int) (t : List Value) (hl : l.length = 256) {places : Nat → Option (Nat × Nat)} (hp : places 0 = some (0, 256)) : Instr.fill places (X zeros t) [(0, .agg (B l))] = some (X l t) := by
  have hB : (B l).size = 256 := by rw [size_B, hl]
  have hX : (X zeros t).size = 256 + t.length := by rw [size_X, len_zeros]
  simp only [Instr.fill, hp, Value.cells, hB, hX]
  have key : ∀ (xs : List Value) (j : Nat) (pre post : List Value), pre.length = j → ∀ (mid : List Value), mid.length = xs.length →
      (xs.zipIdx j).foldl (fun (cs : Array Value) (c : Value × Nat) => cs.setIfInBounds (0 + c.2) c.1) (pre ++ mid ++ post).toArray = (pre ++ xs ++ post).toArray := by
    intro xs
    induction xs with
    | nil => intro j pre post _ mid hmid; obtain rfl := List.eq_nil_of_length_eq_zero hmid; simp
    | cons x xs ih =>
      intro j pre post hpre mid hmid
      match mid, hmid with
      | m :: mid, hmid =>
        simp only [List.zipIdx_cons, List.foldl_cons, Nat.zero_add]
        have e : (pre ++ m :: mid ++ post).toArray.setIfInBounds j x = ((pre ++ [x]) ++ mid ++ post).toArray := by
          apply Array.ext'
          simp only [List.setIfInBounds_toArray]
          rw [List.append_assoc, List.set_append_right _ _ (by omega), show j - pre.length = 0 by omega]
          simp
        have e2 := ih (j + 1) (pre ++ [x]) post (by simp [hpre]) mid (by simpa using hmid)
        simp only [Nat.zero_add] at e2
        rw [e, e2]
        simp
  rw [if_neg (by simp)]
  have e := key (vs .u8 l) 0 [] t rfl (vs .u8 zeros) (by rw [length_vs, length_vs, hl, len_zeros])
  congr 1
  rw [← Array.foldl_toList, Array.toList_zipIdx]
  simpa [X, B] using e
set_option maxRecDepth 100000 in
theorem exec_build57 {o : Oper} {a : Act} {w : World} {x : Operand} (ho : o.op = .build 57 #[(0, x)]) {l : List Int} (hx : a.eval x = .agg (B l)) (hl : l.length = 256) : (execOp a.eval o).run Try.prog w = .ok (.value (.agg (EV l 0))) w := by
  have hz := zero57 w
  have hb : Try.prog.built 57 [(0, .agg (B l))] = some (EV l 0) := by
    have hf : (Try.prog.fieldsOf 57).toList.mapM (fun f => (Try.prog.info? f.type).map fun i => (f.offset, i.size)) = some [(0, 256), (256, 1)] := by kernel_rfl
    obtain ⟨i, hi⟩ : ∃ i, Try.prog.info? 57 = some i := ⟨_, rfl⟩
    have hzi : i.zero = some (.agg (EV zeros 0)) := by
      have := hz
      simp [zeroValue, typeInfo, hi] at this
      cases hzz : i.zero with
      | none => simp [hzz] at this
      | some z => simp [hzz] at this; rw [this]
    unfold Program.built
    have hu : Try.prog.underlying 57 = some (.struct (Try.prog.fieldsOf 57)) := by kernel_rfl
    rw [hi, hu]
    simp only [hzi, hf]
    exact fill_list l [.int .i64 0] hl rfl
  unfold execOp
  simp only [ho, Sem.run_bind, List.map_toArray, List.map_cons, List.map_nil, hx, run_build w 57 _ (EV l 0) hb, Result.andThen_ok, Sem.run_pure]
end Go.Proofs.Ytaccjnekonmkoaa
