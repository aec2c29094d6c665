/-
  The decoder's state: its loads, stores, building and comparison.
-/
import Derived.Test.YtaccjnekonmkoaaSt
namespace Go.Proofs.Ytaccjnekonmkoaa
open Go Go.RowKit

/-- The decoder's state. -/
structure DS where
  l : List Int
  left : Int
  run : Int
  dig : Int
  fin : Bool
def DS.tl (b : DS) : List Value := [.int .i64 b.left, .int .i64 b.run, .int .i64 b.dig, .bool b.fin]
def V (b : DS) : Array Value := X b.l b.tl
theorem size_V {b : DS} (hl : b.l.length = 256) : (V b).size = 260 := by rw [V, size_X, hl]; rfl
theorem agg70 : AggTy Try.prog 70 260 := AggTy.mk' Try.underlying70 rfl (by kernel_rfl)
theorem aggV {b : DS} (hl : b.l.length = 256) : AggTy Try.prog 70 (V b).size := by rw [size_V hl]; exact agg70
theorem V_one (b : DS) : ∀ v ∈ V b, v.oneCell' = true := X_one _ _ (fun v hv => by
  simp only [DS.tl, List.mem_cons, List.not_mem_nil, or_false] at hv
  rcases hv with rfl | rfl | rfl | rfl <;> rfl)
theorem extract_V {b : DS} (hl : b.l.length = 256) : (V b).extract 0 (0 + (B b.l).size) = B b.l := by rw [size_B, hl]; exact extract_X _ hl
theorem getV1 {b : DS} (hl : b.l.length = 256) : (V b)[256]? = some (.int .i64 b.left) := get_X b.tl hl 0
theorem getV2 {b : DS} (hl : b.l.length = 256) : (V b)[257]? = some (.int .i64 b.run) := get_X b.tl hl 1
theorem getV3 {b : DS} (hl : b.l.length = 256) : (V b)[258]? = some (.int .i64 b.dig) := get_X b.tl hl 2
theorem getV4 {b : DS} (hl : b.l.length = 256) : (V b)[259]? = some (.bool b.fin) := get_X b.tl hl 3
theorem getV0 {b : DS} (hl : b.l.length = 256) (i : Nat) (hi : i < 256) : (V b)[i]? = some (.int .u8 (gi b.l i)) := get_Xl b.tl hl i hi
theorem setV1 {b : DS} (hl : b.l.length = 256) (n : Int) : (V b).setIfInBounds 256 (.int .i64 n) = V { b with left := n } := set_X b.tl hl 0 (.int .i64 n)
theorem setV2 {b : DS} (hl : b.l.length = 256) (n : Int) : (V b).setIfInBounds 257 (.int .i64 n) = V { b with run := n } := set_X b.tl hl 1 (.int .i64 n)
theorem setV3 {b : DS} (hl : b.l.length = 256) (n : Int) : (V b).setIfInBounds 258 (.int .i64 n) = V { b with dig := n } := set_X b.tl hl 2 (.int .i64 n)
theorem setV4 {b : DS} (hl : b.l.length = 256) (n : Bool) : (V b).setIfInBounds 259 (.bool n) = V { b with fin := n } := set_X b.tl hl 3 (.bool n)
theorem fitV {b : DS} (hl : b.l.length = 256) : 0 + (B b.l).size ≤ (V b).size := by rw [size_B, size_V hl, hl]; omega
theorem ltV {b : DS} (hl : b.l.length = 256) (i : Nat) (hi : i < 4) : 256 + i < (V b).size := by rw [size_V hl]; omega
theorem size_VV {b c : DS} (hl : b.l.length = 256) (hm : c.l.length = 256) : (V b).size = (V c).size := by rw [size_V hl, size_V hm]
/-- The zero state. -/
def DS0 : DS := ⟨zeros, 0, 0, 0, false⟩
theorem len_DS0 : DS0.l.length = 256 := len_zeros
set_option maxRecDepth 100000 in
theorem zero70 (w : World) : (zeroValue 70).run Try.prog w = .ok (.agg (V DS0)) w := by kernel_rfl
theorem one4 : OneTy Try.prog 4 := ⟨fun w => by kernel_rfl, by kernel_rfl⟩
theorem run_equalIn_bool {P : Program} (w : World) (d : Nat) {t : TypeId} (ht : P.underlying t = some .bool) (a b : Bool) : (Op.equalIn (d + 1) t (.bool a) (.bool b)).run P w = .ok (a == b) w := by
  simp [Op.equalIn, run_underlying ht]
def dsEq (b c : DS) : Bool := (b.l == c.l) && ((b.left == c.left) && ((b.run == c.run) && ((b.dig == c.dig) && (b.fin == c.fin))))
theorem dsEq_self (b : DS) : dsEq b b = true := by simp [dsEq]
theorem dsEq_iff {b c : DS} : dsEq b c = true ↔ b = c := by
  cases b; cases c
  simp [dsEq]
theorem eq70 {b c : DS} (w : World) (hl : b.l.length = 256) (hm : c.l.length = 256) : (Op.equalIn 10000 70 (.agg (V b)) (.agg (V c))).run Try.prog w = .ok (dsEq b c) w := by
  obtain ⟨i5, hi5⟩ := info5
  have hf : (Try.prog.fieldsOf 70).toList.map (fun f => (f.name, f.type, f.offset)) = [("List", 23, 0), ("Left", 3, 256), ("Run", 3, 257), ("Digits", 3, 258), ("Done", 4, 259)] := by kernel_rfl
  rw [run_equalIn_struct w 9999 70 _ _ (by kernel_rfl) (by kernel_rfl)]
  generalize (Try.prog.fieldsOf 70).toList = fs at hf ⊢
  rcases fs with _ | ⟨f0, _ | ⟨f1, _ | ⟨f2, _ | ⟨f3, _ | ⟨f4, _ | ⟨z, t⟩⟩⟩⟩⟩⟩
  · simp at hf
  · simp at hf
  · simp at hf
  · simp at hf
  · simp at hf
  · simp only [List.map_cons, List.map_nil, List.cons.injEq, Prod.mk.injEq, and_true] at hf
    obtain ⟨⟨a1, a2, a3⟩, ⟨b1, b2, b3⟩, ⟨c1, c2, c3⟩, ⟨d1, d2, d3⟩, e1, e2, e3⟩ := hf
    rw [show (9999 : Nat) = 9997 + 2 from rfl, V, V]
    have h5 : (Op.eqFields (9997 + 2) (X b.l b.tl) (X c.l c.tl) []).run Try.prog w = .ok true w := by simp [Op.eqFields]
    have h4 := run_eqCell (fs := []) (f := f4) (by rw [e1]; decide) (by rw [e2]; exact one4) (i := 3) (by rw [e3]) (rfl : b.tl[3]? = some (.bool b.fin)) (rfl : c.tl[3]? = some (.bool c.fin)) hl hm (a := b.fin == c.fin) (by rw [e2]; exact run_equalIn_bool w _ Try.underlying4 b.fin c.fin) h5
    have h3 := run_eqCell (f := f3) (by rw [d1]; decide) (by rw [d2]; exact one3) (i := 2) (by rw [d3]) (rfl : b.tl[2]? = some (.int .i64 b.dig)) (rfl : c.tl[2]? = some (.int .i64 c.dig)) hl hm (by rw [d2, run_equalIn_int w _ 3 .i64 .i64 b.dig c.dig Try.underlying3]) h4
    have h2 := run_eqCell (f := f2) (by rw [c1]; decide) (by rw [c2]; exact one3) (i := 1) (by rw [c3]) (rfl : b.tl[1]? = some (.int .i64 b.run)) (rfl : c.tl[1]? = some (.int .i64 c.run)) hl hm (by rw [c2, run_equalIn_int w _ 3 .i64 .i64 b.run c.run Try.underlying3]) h3
    have h1 := run_eqCell (f := f1) (by rw [b1]; decide) (by rw [b2]; exact one3) (i := 0) (by rw [b3]) (rfl : b.tl[0]? = some (.int .i64 b.left)) (rfl : c.tl[0]? = some (.int .i64 c.left)) hl hm (by rw [b2, run_equalIn_int w _ 3 .i64 .i64 b.left c.left Try.underlying3]) h2
    have h0 := run_eqList (f := f0) (by rw [a1]; decide) a3 (by rw [a2]; exact agg23) (e := 5) (by rw [a2]; exact Try.underlying23) Try.underlying5 hi5 (by kernel_rfl) hl hm h1
    rw [h0, Bool.and_true]
    rfl
  · simp at hf
theorem exec_eql70 {o : Oper} {a : Act} {w : World} {t' : TypeId} {x y : Operand} (ho : o.op = .binOp .eql 70 x y t') {b c : DS} (hx : a.eval x = .agg (V b)) (hy : a.eval y = .agg (V c)) (hl : b.l.length = 256) (hm : c.l.length = 256) {r : Bool} (hb : dsEq b c = r) :
    (execOp a.eval o).run Try.prog w = .ok (.value (.bool r)) w := by
  subst hb
  unfold execOp
  simp only [ho, hx, hy, Sem.run_bind, run_eqGuard_agg w .eql 70 x y _ _ (by kernel_rfl : Try.prog.eqGuardType Try.prog.depth 70 = false), Result.andThen_ok, run_eql_struct, eq70 w hl hm, Sem.run_pure]
theorem exec_neq70 {o : Oper} {a : Act} {w : World} {t' : TypeId} {x y : Operand} (ho : o.op = .binOp .neq 70 x y t') {b c : DS} (hx : a.eval x = .agg (V b)) (hy : a.eval y = .agg (V c)) (hl : b.l.length = 256) (hm : c.l.length = 256) {r : Bool} (hb : (!dsEq b c) = r) :
    (execOp a.eval o).run Try.prog w = .ok (.value (.bool r)) w := by
  subst hb
  unfold execOp
  simp only [ho, hx, hy, Sem.run_bind, run_eqGuard_agg w .neq 70 x y _ _ (by kernel_rfl : Try.prog.eqGuardType Try.prog.depth 70 = false), Result.andThen_ok, run_neq_struct, eq70 w hl hm, Sem.run_pure]
theorem fill_list_then (l : List Int) (t : List Value) (hl : l.length = 256) {places : Nat → Option (Nat × Nat)} (hp : places 0 = some (0, 256)) (rest : List (Nat × Value)) : Instr.fill places (X zeros t) ((0, .agg (B l)) :: rest) = Instr.fill places (X l t) rest := by
  have h := fill_list l t hl hp
  have hB : (B l).size = 256 := by rw [size_B, hl]
  have hX : (X zeros t).size = 256 + t.length := by rw [size_X, len_zeros]
  simp only [Instr.fill, hp, Value.cells, hB, hX] at h ⊢
  rw [if_neg (by simp)] at h ⊢
  simp only [Option.some.injEq] at h
  rw [h]
theorem fill_cell_then {l : List Int} (t : List Value) (hl : l.length = 256) {places : Nat → Option (Nat × Nat)} {k i : Nat} (hp : places k = some (256 + i, 1)) (hi : i < t.length) {v : Value} (hv : v.cells = #[v]) (rest : List (Nat × Value)) : Instr.fill places (X l t) ((k, v) :: rest) = Instr.fill places (X l (t.set i v)) rest := by
  have hX : (X l t).size = 256 + t.length := by rw [size_X, hl]
  have hs := set_X t hl i v
  simp only [Instr.fill, hp, hv, hX]
  rw [if_neg (by simp; omega)]
  congr 1
set_option maxRecDepth 100000 in
theorem built70 (w : World) (parts : List (Nat × Value)) {places : List (Nat × Nat)} (hpl : places = [(0, 256), (256, 1), (257, 1), (258, 1), (259, 1)]) : Try.prog.built 70 parts = Instr.fill (places.toArray[·]?) (V DS0) parts := by
  subst hpl
  have hf : (Try.prog.fieldsOf 70).toList.mapM (fun f => (Try.prog.info? f.type).map fun i => (f.offset, i.size)) = some [(0, 256), (256, 1), (257, 1), (258, 1), (259, 1)] := by kernel_rfl
  obtain ⟨i, hi⟩ : ∃ i, Try.prog.info? 70 = some i := ⟨_, rfl⟩
  have hzi : i.zero = some (.agg (V DS0)) := by
    have := zero70 w
    simp [zeroValue, typeInfo, hi] at this
    cases hzz : i.zero with
    | none => simp [hzz] at this
    | some z => simp [hzz] at this; rw [this]
  unfold Program.built
  have hu : Try.prog.underlying 70 = some (.struct (Try.prog.fieldsOf 70)) := by kernel_rfl
  rw [hi, hu]
  simp only [hzi, hf]
  rfl
theorem exec_built {o : Oper} {a : Act} {w : World} {parts : Array (Nat × Operand)} (ho : o.op = .build 70 parts) {b : DS} (hb : Try.prog.built 70 (parts.map fun (i, x) => (i, a.eval x)).toList = some (V b)) : (execOp a.eval o).run Try.prog w = .ok (.value (.agg (V b))) w := by
  unfold execOp
  simp only [ho, Sem.run_bind, run_build w 70 _ (V b) hb, Result.andThen_ok, Sem.run_pure]
theorem exec_build70_0 {o : Oper} {a : Act} {w : World} (ho : o.op = .build 70 #[]) : (execOp a.eval o).run Try.prog w = .ok (.value (.agg (V DS0))) w :=
  exec_built ho (by rw [built70 w _ rfl]; simp [Instr.fill])
theorem exec_build70_1 {o : Oper} {a : Act} {w : World} {x y : Operand} (ho : o.op = .build 70 #[(0, x), (1, y)]) {l : List Int} {n : Int} (hx : a.eval x = .agg (B l)) (hy : a.eval y = .int .i64 n) (hl : l.length = 256) : (execOp a.eval o).run Try.prog w = .ok (.value (.agg (V ⟨l, n, 0, 0, false⟩))) w := by
  refine exec_built ho ?_
  rw [built70 w _ rfl]
  simp only [List.map_toArray, List.map_cons, List.map_nil, hx, hy]
  show Instr.fill _ (X zeros DS0.tl) _ = _
  rw [fill_list_then l _ hl rfl, fill_cell_then (k := 1) (i := 0) _ hl rfl (by decide) rfl]
  rfl
theorem exec_build70_4 {o : Oper} {a : Act} {w : World} {x y : Operand} (ho : o.op = .build 70 #[(0, x), (4, y)]) {l : List Int} {n : Bool} (hx : a.eval x = .agg (B l)) (hy : a.eval y = .bool n) (hl : l.length = 256) : (execOp a.eval o).run Try.prog w = .ok (.value (.agg (V ⟨l, 0, 0, 0, n⟩))) w := by
  refine exec_built ho ?_
  rw [built70 w _ rfl]
  simp only [List.map_toArray, List.map_cons, List.map_nil, hx, hy]
  show Instr.fill _ (X zeros DS0.tl) _ = _
  rw [fill_list_then l _ hl rfl, fill_cell_then (k := 4) (i := 3) _ hl rfl (by decide) rfl]
  rfl
end Go.Proofs.Ytaccjnekonmkoaa
