/-
  Part 17 of the proof.
-/
import Derived.Test.YtkpbhdhkdonghaaGreatT09
import Derived.Test.YtkpbhdhkdonghaaGreatT11
import Derived.Test.YtkpbhdhkdonghaaGreatT12
import Derived.Test.YtkpbhdhkdonghaaGreatT16
set_option linter.all false
namespace Go.Proofs.YtkpbhdhkdonghaaGreat
open Go Go.RowKit
def TS (l : List Int) (s : Int) (b : Int) (n : Int) (d : Int) : Array Value := (vs .u8 l ++ ([Value.int .i64 s, Value.int .i64 b, Value.int .i64 n, Value.int .i64 d])).toArray
theorem TS_size {l : List Int} {s : Int} {b : Int} {n : Int} {d : Int} (hl : l.length = 258) : (TS l s b n d).size = 262 := by simp [TS, length_vs, hl]
theorem TS_ag {l : List Int} {s : Int} {b : Int} {n : Int} {d : Int} (hl : l.length = 258) : AggTy Tryz.prog 141 (TS l s b n d).size := by rw [TS_size hl]; exact ag (by decide)
theorem TS_one (l : List Int) (s : Int) (b : Int) (n : Int) (d : Int) : ∀ v ∈ TS l s b n d, v.oneCell' = true := by
  intro v hv
  have hv : v ∈ (vs .u8 l ++ ([Value.int .i64 s, Value.int .i64 b, Value.int .i64 n, Value.int .i64 d])) := by simpa [TS] using hv
  simp only [List.mem_append, List.mem_cons, List.not_mem_nil, or_false] at hv
  rcases hv with h | (rfl | rfl | rfl | rfl)
  · exact vs_one .u8 _ v h
  · rfl
  · rfl
  · rfl
  · rfl
theorem TS_at_l {l : List Int} {s : Int} {b : Int} {n : Int} {d : Int}  (hl : l.length = 258) (i : Nat) (hi : i < 258) : (TS l s b n d)[i]? = some (.int .u8 (gi l i)) := by
  rw [show TS l s b n d = ([] ++ ((vs .u8 l) ++ ([Value.int .i64 s, Value.int .i64 b, Value.int .i64 n, Value.int .i64 d]))).toArray by simp [TS, List.append_assoc]]
  have h := get3 (P := []) (off := 0) (S := ([Value.int .i64 s, Value.int .i64 b, Value.int .i64 n, Value.int .i64 d])) rfl (get_vs .u8 l i (by omega))
  rwa [Nat.zero_add] at h
theorem TS_put_l {l : List Int} {s : Int} {b : Int} {n : Int} {d : Int}  (hl : l.length = 258) (i : Nat) (hi : i < 258) (x : Int) : (TS l s b n d).setIfInBounds (i) (.int .u8 x) = TS (l.set i x) s b n d := by
  rw [show TS l s b n d = ([] ++ ((vs .u8 l) ++ ([Value.int .i64 s, Value.int .i64 b, Value.int .i64 n, Value.int .i64 d]))).toArray by simp [TS, List.append_assoc]]
  have h := set3 (P := []) (off := 0) (S := ([Value.int .i64 s, Value.int .i64 b, Value.int .i64 n, Value.int .i64 d])) rfl (show i < (vs .u8 l).length by rw [length_vs]; omega) (.int .u8 x)
  rw [vs_set] at h
  rw [Nat.zero_add] at h
  rw [h]
  simp [TS, List.append_assoc]
theorem TS_sub_l {l : List Int} {s : Int} {b : Int} {n : Int} {d : Int}  (hl : l.length = 258) : (TS l s b n d).extract 0 (0 + (J .u8 l).size) = J .u8 l := by
  rw [show TS l s b n d = ([] ++ ((vs .u8 l) ++ ([Value.int .i64 s, Value.int .i64 b, Value.int .i64 n, Value.int .i64 d]))).toArray by simp [TS, List.append_assoc], size_J, hl]
  have h := ext3 (P := []) (M := (vs .u8 l)) (S := ([Value.int .i64 s, Value.int .i64 b, Value.int .i64 n, Value.int .i64 d])) (off := 0) (n := 258) rfl (by rw [length_vs, hl])
  exact h
theorem TS_fit_l {l : List Int} {s : Int} {b : Int} {n : Int} {d : Int} (hl : l.length = 258) : 0 + (J .u8 l).size ≤ (TS l s b n d).size := by rw [TS_size hl, size_J, hl]; omega
theorem TS_at_s {l : List Int} {s : Int} {b : Int} {n : Int} {d : Int} (hl : l.length = 258) : (TS l s b n d)[258]? = some (Value.int .i64 s) := by
  rw [show TS l s b n d = ((vs .u8 l) ++ (([Value.int .i64 s, Value.int .i64 b, Value.int .i64 n, Value.int .i64 d]) ++ [])).toArray by simp [TS, List.append_assoc]]
  exact get3 (P := (vs .u8 l)) (off := 258) (i := 0) (S := []) (by simp [length_vs, hl]) rfl
theorem TS_put_s {l : List Int} {s : Int} {b : Int} {n : Int} {d : Int} (hl : l.length = 258) (x : Int) : (TS l s b n d).setIfInBounds 258 (Value.int .i64 x) = TS l x b n d := by
  rw [show TS l s b n d = ((vs .u8 l) ++ (([Value.int .i64 s, Value.int .i64 b, Value.int .i64 n, Value.int .i64 d]) ++ [])).toArray by simp [TS, List.append_assoc]]
  have h := set3 (P := (vs .u8 l)) (off := 258) (i := 0) (S := []) (by simp [length_vs, hl]) (show 0 < ([Value.int .i64 s, Value.int .i64 b, Value.int .i64 n, Value.int .i64 d]).length by simp) (Value.int .i64 x)
  rw [h]
  simp [TS, List.append_assoc]
theorem TS_lt_s {l : List Int} {s : Int} {b : Int} {n : Int} {d : Int} (hl : l.length = 258) : 258 < (TS l s b n d).size := by rw [TS_size hl]; omega
theorem TS_at_b {l : List Int} {s : Int} {b : Int} {n : Int} {d : Int} (hl : l.length = 258) : (TS l s b n d)[259]? = some (Value.int .i64 b) := by
  rw [show TS l s b n d = ((vs .u8 l) ++ (([Value.int .i64 s, Value.int .i64 b, Value.int .i64 n, Value.int .i64 d]) ++ [])).toArray by simp [TS, List.append_assoc]]
  exact get3 (P := (vs .u8 l)) (off := 258) (i := 1) (S := []) (by simp [length_vs, hl]) rfl
theorem TS_put_b {l : List Int} {s : Int} {b : Int} {n : Int} {d : Int} (hl : l.length = 258) (x : Int) : (TS l s b n d).setIfInBounds 259 (Value.int .i64 x) = TS l s x n d := by
  rw [show TS l s b n d = ((vs .u8 l) ++ (([Value.int .i64 s, Value.int .i64 b, Value.int .i64 n, Value.int .i64 d]) ++ [])).toArray by simp [TS, List.append_assoc]]
  have h := set3 (P := (vs .u8 l)) (off := 258) (i := 1) (S := []) (by simp [length_vs, hl]) (show 1 < ([Value.int .i64 s, Value.int .i64 b, Value.int .i64 n, Value.int .i64 d]).length by simp) (Value.int .i64 x)
  rw [h]
  simp [TS, List.append_assoc]
theorem TS_lt_b {l : List Int} {s : Int} {b : Int} {n : Int} {d : Int} (hl : l.length = 258) : 259 < (TS l s b n d).size := by rw [TS_size hl]; omega
theorem TS_at_n {l : List Int} {s : Int} {b : Int} {n : Int} {d : Int} (hl : l.length = 258) : (TS l s b n d)[260]? = some (Value.int .i64 n) := by
  rw [show TS l s b n d = ((vs .u8 l) ++ (([Value.int .i64 s, Value.int .i64 b, Value.int .i64 n, Value.int .i64 d]) ++ [])).toArray by simp [TS, List.append_assoc]]
  exact get3 (P := (vs .u8 l)) (off := 258) (i := 2) (S := []) (by simp [length_vs, hl]) rfl
theorem TS_put_n {l : List Int} {s : Int} {b : Int} {n : Int} {d : Int} (hl : l.length = 258) (x : Int) : (TS l s b n d).setIfInBounds 260 (Value.int .i64 x) = TS l s b x d := by
  rw [show TS l s b n d = ((vs .u8 l) ++ (([Value.int .i64 s, Value.int .i64 b, Value.int .i64 n, Value.int .i64 d]) ++ [])).toArray by simp [TS, List.append_assoc]]
  have h := set3 (P := (vs .u8 l)) (off := 258) (i := 2) (S := []) (by simp [length_vs, hl]) (show 2 < ([Value.int .i64 s, Value.int .i64 b, Value.int .i64 n, Value.int .i64 d]).length by simp) (Value.int .i64 x)
  rw [h]
  simp [TS, List.append_assoc]
theorem TS_lt_n {l : List Int} {s : Int} {b : Int} {n : Int} {d : Int} (hl : l.length = 258) : 260 < (TS l s b n d).size := by rw [TS_size hl]; omega
theorem TS_at_d {l : List Int} {s : Int} {b : Int} {n : Int} {d : Int} (hl : l.length = 258) : (TS l s b n d)[261]? = some (Value.int .i64 d) := by
  rw [show TS l s b n d = ((vs .u8 l) ++ (([Value.int .i64 s, Value.int .i64 b, Value.int .i64 n, Value.int .i64 d]) ++ [])).toArray by simp [TS, List.append_assoc]]
  exact get3 (P := (vs .u8 l)) (off := 258) (i := 3) (S := []) (by simp [length_vs, hl]) rfl
theorem TS_put_d {l : List Int} {s : Int} {b : Int} {n : Int} {d : Int} (hl : l.length = 258) (x : Int) : (TS l s b n d).setIfInBounds 261 (Value.int .i64 x) = TS l s b n x := by
  rw [show TS l s b n d = ((vs .u8 l) ++ (([Value.int .i64 s, Value.int .i64 b, Value.int .i64 n, Value.int .i64 d]) ++ [])).toArray by simp [TS, List.append_assoc]]
  have h := set3 (P := (vs .u8 l)) (off := 258) (i := 3) (S := []) (by simp [length_vs, hl]) (show 3 < ([Value.int .i64 s, Value.int .i64 b, Value.int .i64 n, Value.int .i64 d]).length by simp) (Value.int .i64 x)
  rw [h]
  simp [TS, List.append_assoc]
theorem TS_lt_d {l : List Int} {s : Int} {b : Int} {n : Int} {d : Int} (hl : l.length = 258) : 261 < (TS l s b n d).size := by rw [TS_size hl]; omega
def CS (l : List Int) (c : Int) (b : Int) : Array Value := (vs .u8 l ++ ([Value.int .i64 c, Value.int .i64 b])).toArray
theorem zrTS (w : World) : (zeroValue 141).run Tryz.prog w = .ok (.agg (TS z258 0 0 0 0)) w := by kernel_rfl
theorem part3 {P : Program} {ty : TypeId} {w : World} {Q M S : List Value} {off n : Nat} (hQ : Q.length = off) (hn : M.length = n) (ht : AggTy P ty n) : (part ty (Q ++ (M ++ S)).toArray off).run P w = .ok (.agg M.toArray) w := by
  have he := ext3 (S := S) hQ hn
  cases hq : P.info? ty with
  | none => have := ht.size; simp [hq] at this
  | some i =>
    have hs : i.size = n := by have := ht.size; simpa [hq] using this
    simp only [part, ht.agg, sizeOf, typeInfo, Sem.run_bind, run_program, hq, Result.andThen_ok, Sem.run_pure, hs, if_true]
    rw [he]
theorem partc {P : Program} {ty : TypeId} {w : World} {cs : Array Value} {off : Nat} {v : Value} (ht : OneTy P ty) (hv : cs[off]? = some v) : (part ty cs off).run P w = .ok v w := by
  simp [part, ht.1, hv]
theorem eqf {P : Program} {w : World} {d : Nat} {f : Field} {fs : List Field} {cs ds : Array Value} {u v : Value} (hn : f.name ≠ "_") (hu : (part f.type cs f.offset).run P w = .ok u w) (hv : (part f.type ds f.offset).run P w = .ok v w)
    {a b : Bool} (ha : (Op.equalIn (d + 2) f.type u v).run P w = .ok a w) (hr : (Op.eqFields (d + 2) cs ds fs).run P w = .ok b w) : (Op.eqFields (d + 2) cs ds (f :: fs)).run P w = .ok (a && b) w := by
  simp only [Op.eqFields, ne_eq, hn, not_false_eq_true, if_true, Sem.run_bind, hu, hv, Result.andThen_ok, ha]
  cases a <;> simp [hr]
theorem eq141 {l : List Int} (s b n d : Int) (w : World) (hl : l.length = 258) : (Op.equalIn 10000 141 (.agg (TS l s b n d)) (.agg (TS l s b n d))).run Tryz.prog w = .ok true w := by
  obtain ⟨i5, hi5⟩ := info5
  have hf : (Tryz.prog.fieldsOf 141).toList.map (fun f => (f.name, f.type, f.offset)) = [("Lengths", 139, 0), ("Symbol", 3, 258), ("Bits", 3, 259), ("Now", 3, 260), ("Way", 3, 261)] := by kernel_rfl
  rw [run_equalIn_struct w 9999 141 _ _ (by kernel_rfl) (by kernel_rfl)]
  generalize (Tryz.prog.fieldsOf 141).toList = fs at hf ⊢
  rcases fs with _ | ⟨f0, _ | ⟨f1, _ | ⟨f2, _ | ⟨f3, _ | ⟨f4, _ | ⟨z, t⟩⟩⟩⟩⟩⟩
  · simp at hf
  · simp at hf
  · simp at hf
  · simp at hf
  · simp at hf
  · simp only [List.map_cons, List.map_nil, List.cons.injEq, Prod.mk.injEq, and_true] at hf
    obtain ⟨⟨a1, a2, a3⟩, ⟨b1, b2, b3⟩, ⟨c1, c2, c3⟩, ⟨d1, d2, d3⟩, e1, e2, e3⟩ := hf
    rw [show (9999 : Nat) = 9997 + 2 from rfl]
    have h5 : (Op.eqFields (9997 + 2) (TS l s b n d) (TS l s b n d) []).run Tryz.prog w = .ok true w := by simp [Op.eqFields]
    have cell : ∀ (f : Field) (o : Nat) (x : Int), f.type = 3 → f.offset = o → (TS l s b n d)[o]? = some (.int .i64 x) → (part f.type (TS l s b n d) f.offset).run Tryz.prog w = .ok (.int .i64 x) w := fun f o x h1 h2 h3 => by rw [h1, h2]; exact partc one3 h3
    have ee : ∀ (f : Field) (x : Int), f.type = 3 → (Op.equalIn (9997 + 2) f.type (.int .i64 x) (.int .i64 x)).run Tryz.prog w = .ok true w := fun f x h1 => by rw [h1, run_equalIn_int w _ 3 .i64 .i64 x x Tryz.underlying3]; simp
    have h4 := eqf (f := f4) (by rw [e1]; decide) (cell f4 _ _ e2 e3 (TS_at_d hl)) (cell f4 _ _ e2 e3 (TS_at_d hl)) (ee f4 d e2) h5
    have h3 := eqf (f := f3) (by rw [d1]; decide) (cell f3 _ _ d2 d3 (TS_at_n hl)) (cell f3 _ _ d2 d3 (TS_at_n hl)) (ee f3 n d2) h4
    have h2 := eqf (f := f2) (by rw [c1]; decide) (cell f2 _ _ c2 c3 (TS_at_b hl)) (cell f2 _ _ c2 c3 (TS_at_b hl)) (ee f2 b c2) h3
    have h1 := eqf (f := f1) (by rw [b1]; decide) (cell f1 _ _ b2 b3 (TS_at_s hl)) (cell f1 _ _ b2 b3 (TS_at_s hl)) (ee f1 s b2) h2
    have hp : (part f0.type (TS l s b n d) f0.offset).run Tryz.prog w = .ok (.agg (J .u8 l)) w := by
      rw [a2, a3]
      exact part3 (Q := []) (M := vs .u8 l) rfl (by rw [length_vs, hl]) agg139
    have hq : (Op.equalIn (9997 + 2) f0.type (.agg (J .u8 l)) (.agg (J .u8 l))).run Tryz.prog w = .ok true w := by
      have h := run_equalIn_ints (P := Tryz.prog) (w := w) 9997 (k := .u8) Tryz.underlying139 Tryz.underlying5 hi5 (by kernel_rfl) l l hl hl
      rw [a2]
      simpa [J] using h
    have h0 := eqf (f := f0) (by rw [a1]; decide) hp hp hq h1
    rw [h0]
    rfl
  · simp at hf
theorem exec_eq141 {o : Oper} {a : Act} {w : World} {t' : TypeId} {x y : Operand} (ho : o.op = .binOp .eql 141 x y t') {l : List Int} {s b n d : Int} (hx : a.eval x = .agg (TS l s b n d)) (hy : a.eval y = .agg (TS l s b n d)) (hl : l.length = 258) :
    (execOp a.eval o).run Tryz.prog w = .ok (.value (.bool true)) w := by
  unfold execOp
  simp only [ho, hx, hy, Sem.run_bind, run_eqGuard_agg w .eql 141 x y _ _ (by kernel_rfl : Tryz.prog.eqGuardType Tryz.prog.depth 141 = false), Result.andThen_ok, run_eql_struct, eq141 s b n d w hl, Sem.run_pure]
theorem exec_bld {o : Oper} {a : Act} {w : World} {ty : TypeId} {parts : Array (Nat × Operand)} (ho : o.op = .build ty parts) {cs : Array Value} (hb : Tryz.prog.built ty (parts.map fun (i, x) => (i, a.eval x)).toList = some cs) : (execOp a.eval o).run Tryz.prog w = .ok (.value (.agg cs)) w := by
  unfold execOp
  simp only [ho, Sem.run_bind, run_build w ty _ cs hb, Result.andThen_ok, Sem.run_pure]
set_option maxRecDepth 100000 in
theorem exec_build141 {o : Oper} {a : Act} {w : World} {x y : Operand} (ho : o.op = .build 141 #[(2, x), (3, y)]) {b n : Int} (hx : a.eval x = .int .i64 b) (hy : a.eval y = .int .i64 n) : (execOp a.eval o).run Tryz.prog w = .ok (.value (.agg (TS z258 0 b n 0))) w :=
  exec_bld ho (by simp only [List.map_toArray, List.map_cons, List.map_nil, hx, hy]; kernel_rfl)
end Go.Proofs.YtkpbhdhkdonghaaGreat

namespace Go.Proofs.YtkpbhdhkdonghaaGreat
open Go Go.RowKit
def turn (was now way : Int) : Bool := if way = 0 then decide (was = now) else if way = 1 then decide (was < now) else decide (now < was)
set_option maxRecDepth 100000 in
theorem turned_any (x y z : Int) (w : World) : Calls Tryz.prog 212 #[.int .i64 x, .int .i64 y, .int .i64 z] w fun e w' => (e = .returned (.bool (turn x y z))) ∧ w' = w := by
  rw [turn]
  by_cases h0 : z = 0
  · subst h0
    rw [if_pos rfl]
    cases hq : decide (x = y)
    all_goals
      have hq' : (x == y) = decide (x = y) := rfl
      rw [hq] at hq'
      clear hq
      go_enter Tryz.func212, Tryz.ntmps212
      go_wp2
      go_ret
      exact ⟨rfl, rfl⟩
  rw [if_neg h0]
  have q0 : (z == 0) = false := by simpa using h0
  by_cases h1 : z = 1
  · subst h1
    rw [if_pos rfl]
    clear h0 q0
    cases hq : decide (x < y)
    all_goals
      go_enter Tryz.func212, Tryz.ntmps212
      go_wp2
      go_ret
      exact ⟨rfl, rfl⟩
  rw [if_neg h1]
  have q1 : (z == 1) = false := by simpa using h1
  clear h0 h1
  cases hq : decide (y < x)
  all_goals
    go_enter Tryz.func212, Tryz.ntmps212
    go_wp2
    go_ret
    exact ⟨rfl, rfl⟩
def Known (l : List Int) (s : Int) : Prop := ∀ k : Nat, k < 258 → 0 ≤ gi l k ∧ gi l k ≤ 15 ∧ (s ≤ k → gi l k = 0)
set_option maxRecDepth 100000 in
set_option maxHeartbeats 1000000 in
theorem known_ok (l : List Int) (s b n d : Int) (w0 : World) (hl : l.length = 258) (hk : Known l s) : Calls Tryz.prog 211 #[.agg (TS l s b n d)] w0 fun e w' => (e = .returned (.bool true)) ∧ Below w0.heap.size w0 w' := by
  have HL := Lib.hid hl
  have HK := Lib.hid hk
  clear hk hl
  go_enter Tryz.func211, Tryz.ntmps211
  have hm := Own.nil w0
  go_wp2_with (first
    | (refine list_eff rfl (eff_box hm rfl rfl ?_); clear hm; intro w g hm)
    | (refine wpList_run rfl (ldp 0 hm rfl rfl rfl (TS_sub_l HL.out) (aggN HL.out) (TS_fit_l HL.out)) ?_))
  go_loopw [7] (fun u wr => ∃ k : Nat, k ≤ 258 ∧ u = .int .i64 k ∧ Own w0 wr [(g, TS l s b n d)] []) (fun u _ => 258 - (intOf u).toNat)
  case atStart => exact ⟨0, by omega, rfl, hm⟩
  case round =>
    clear hm
    obtain ⟨k, hk, rfl, hm⟩ := hrel
    by_cases hlt : k < 258
    · have hg : (J .u8 l)[k]? = some (.int .u8 (gi l k)) := at_J .u8 l k (by rw [HL.out]; exact hlt)
      obtain ⟨hx0, hx1, hx2⟩ := HK.out k hlt
      have q1 : decide (15 < gi l k) = false := decide_eq_false (by omega)
      by_cases hs : s ≤ k
      · have q2 : decide (s ≤ (k : Int)) = true := decide_eq_true hs
        rw [hx2 hs] at hg
        clear hx0 hx1 hx2 q1 hs
        go_wp2_with (first
        | (refine wpList_run rfl (exec_index rfl rfl rfl Tryz.underlying139 one5 hlt hg) ?_)
        | (refine wpList_run rfl (ld 0 hm rfl rfl rfl (ot rfl) (TS_at_s HL.out)) ?_)
        | (refine wpList_run rfl (ld 0 hm rfl rfl rfl (ot rfl) (TS_at_b HL.out)) ?_)
        | (refine wpList_run rfl (ld 0 hm rfl rfl rfl (ot rfl) (TS_at_n HL.out)) ?_)
        | (refine wpList_run rfl (ld 0 hm rfl rfl rfl (ot rfl) (TS_at_d HL.out)) ?_)
        | (refine wpList_run rfl (lda 0 hm rfl rfl rfl (TS_ag HL.out)) ?_)
        | (refine wpList_run rfl (ldp 0 hm rfl rfl rfl (TS_sub_l HL.out) (aggN HL.out) (TS_fit_l HL.out)) ?_))
        go_roundw
        case rel => exact ⟨k + 1, by omega, by go_num, hm⟩
        case measure => simp [intOf]; omega
      · have q2 : decide (s ≤ (k : Int)) = false := decide_eq_false hs
        clear hx0 hx1 hx2 hs
        generalize gi l k = x at *
        go_wp2_with (first
        | (refine wpList_run rfl (exec_index rfl rfl rfl Tryz.underlying139 one5 hlt hg) ?_)
        | (refine wpList_run rfl (ld 0 hm rfl rfl rfl (ot rfl) (TS_at_s HL.out)) ?_)
        | (refine wpList_run rfl (ld 0 hm rfl rfl rfl (ot rfl) (TS_at_b HL.out)) ?_)
        | (refine wpList_run rfl (ld 0 hm rfl rfl rfl (ot rfl) (TS_at_n HL.out)) ?_)
        | (refine wpList_run rfl (ld 0 hm rfl rfl rfl (ot rfl) (TS_at_d HL.out)) ?_)
        | (refine wpList_run rfl (lda 0 hm rfl rfl rfl (TS_ag HL.out)) ?_)
        | (refine wpList_run rfl (ldp 0 hm rfl rfl rfl (TS_sub_l HL.out) (aggN HL.out) (TS_fit_l HL.out)) ?_))
        go_roundw
        case rel => exact ⟨k + 1, by omega, by go_num, hm⟩
        case measure => simp [intOf]; omega
    · obtain rfl : k = 258 := by omega
      go_wp2
      go_ret
      exact ⟨rfl, hm.below⟩
structure TT where
  l : List Int
  s : Int
  b : Int
  n : Int
  d : Int
def TT.v (t : TT) : Array Value := TS t.l t.s t.b t.n t.d
def TT.next (t : TT) (bit : Int) : TT × Bool :=
  if t.b < 4 then (⟨t.l, t.s, t.b + 1, 2 * t.n + bit, t.d⟩, true)
  else if t.b = 4 then if bit = 0 then (⟨t.l.set t.s.toNat t.n, t.s + 1, t.b, t.n, 0⟩, decide (t.s + 1 < 258) || ktab (t.l.set t.s.toNat t.n)) else (⟨t.l, t.s, 5, t.n, t.d⟩, true)
  else if bit = 0 then (⟨t.l, t.s, 4, t.n + 1, 1⟩, decide (t.d ≠ 2 ∧ t.n < 15)) else (⟨t.l, t.s, 4, t.n - 1, 2⟩, decide (t.d ≠ 1 ∧ 0 < t.n))
structure TT.ok (t : TT) : Prop where
  len : t.l.length = 258
  sym : 0 ≤ t.s ∧ t.s < 258
  bit : 0 ≤ t.b ∧ t.b ≤ 5
  now : 0 ≤ t.n ∧ t.n ≤ 15
  way : 0 ≤ t.d ∧ t.d ≤ 2
  known : Known t.l t.s
  first : t.b < 4 → t.s = 0 ∧ t.d = 0 ∧ t.l = z258 ∧ t.n < 2 ^ t.b.toNat
  zero : t.s = 0 → t.d = 1 → 0 < t.n
  zero2 : t.s = 0 → t.d = 2 → t.n < 15
  turn : 0 < t.s → turn (gi t.l (t.s.toNat - 1)) t.n t.d = true
end Go.Proofs.YtkpbhdhkdonghaaGreat

namespace Go.Proofs.YtkpbhdhkdonghaaGreat
open Go Go.RowKit
theorem size_TSS {l m : List Int} {s b n d s' b' n' d' : Int} (h : l.length = 258) (k : m.length = 258) : (TS l s b n d).size = (TS m s' b' n' d').size := by rw [TS_size h, TS_size k]
theorem ev_k {a : Act} {v : Value} : a.eval (.const v) = v := rfl
theorem or_low (n c : Int) (h0 : 0 ≤ n) (h1 : n < 4611686018427387904) (c0 : 0 ≤ c) (c1 : c ≤ 1) : bits .or .i64 (n * 2) c = 2 * n + c := by
  rw [show 2 * n + c = n * 2 + c by omega]
  exact bits_join .i64 63 (by decide) (fun n h0 h1 => IntWalk.i64_in n (by omega)) 1 (n * 2) c (by omega) (by simp) (by omega) c0 (by omega) (by omega)
set_option maxRecDepth 100000 in
set_option maxHeartbeats 1000000 in
theorem next_first (l : List Int) (s b n d bit : Int) (w0 : World) (hl : l.length = 258) (hb : b = 0 ∨ b = 1 ∨ b = 2 ∨ b = 3) (n0 : 0 ≤ n) (n1 : n ≤ 15) (h0 : 0 ≤ bit) (h1 : bit ≤ 1) : Calls Tryz.prog 144 #[.agg (TS l s b n d), .int .i64 bit] w0 (fun e w' => (e = .returned (.tuple #[.agg (TS l s (b + 1) (2 * n + bit) d), .bool (true)])) ∧ Below w0.heap.size w0 w') := by
  have HL := Lib.hid hl
  clear hl
  have e1 : bits .or .i64 (n * 2) bit = 2 * n + bit := or_low n bit n0 (by omega) h0 h1
  have w1 : IntKind.i64.wrap (n * 2) = n * 2 := IntWalk.i64_in _ (by omega)
  have q : decide (b < 4) = true := decide_eq_true (by omega)
  have w2 : IntKind.i64.wrap (b + 1) = b + 1 := IntWalk.i64_in _ (by omega)
  clear n0 n1 h0 h1 hb
  go_enter Tryz.func144, Tryz.ntmps144
  have hm := Own.nil w0
  go_wp2_with (first
      | (with_reducible refine gBx ?_; (refine list_eff rfl (eff_box hm rfl rfl ?_); clear hm; intro w g hm))
      | (with_reducible refine gAl ?_; (refine list_eff rfl (eff_alloc hm rfl zrTS ?_); clear hm; intro w g2 hm))
      | (with_reducible refine gLd (t := 3) ?_; (refine wpList_run rfl (ld 1 hm rfl rfl rfl (ot rfl) (by first | exact (TS_at_s HL.out) | exact (TS_at_b HL.out) | exact (TS_at_n HL.out) | exact (TS_at_d HL.out))) ?_))
      | (with_reducible refine gLd (t := 141) ?_; (refine wpList_run rfl (lda 1 hm rfl rfl rfl (TS_ag HL.out)) ?_))
      | (with_reducible refine gSt (t := 3) ?_; (first | (refine list_eff rfl (eff_cell 1 hm rfl rfl (ev_tmp rfl) rfl (ot rfl) (by first | exact (TS_lt_s HL.out) | exact (TS_lt_b HL.out) | exact (TS_lt_n HL.out) | exact (TS_lt_d HL.out)) rfl rfl (by first | exact (TS_put_s HL.out _) | exact (TS_put_b HL.out _) | exact (TS_put_n HL.out _) | exact (TS_put_d HL.out _)) ?_); clear hm; intro w hm; try simp only [puts, List.cons_append, List.nil_append, List.set] at hm) | (refine list_eff rfl (eff_cell 1 hm rfl rfl ev_k rfl (ot rfl) (by first | exact (TS_lt_s HL.out) | exact (TS_lt_b HL.out) | exact (TS_lt_n HL.out) | exact (TS_lt_d HL.out)) rfl rfl (by first | exact (TS_put_s HL.out _) | exact (TS_put_b HL.out _) | exact (TS_put_n HL.out _) | exact (TS_put_d HL.out _)) ?_); clear hm; intro w hm; try simp only [puts, List.cons_append, List.nil_append, List.set] at hm)))
      | (with_reducible refine gSt (t := 141) ?_; (refine list_eff rfl (eff_store 0 hm rfl rfl (ev_tmp rfl) rfl (TS_ag HL.out) (size_TSS HL.out len_z258) (TS_one _ _ _ _ _) ?_); clear hm; intro w hm; try simp only [puts, List.cons_append, List.nil_append, List.set] at hm)))
  refine bodyPost_ret (results_agg2 rfl rfl (hm.row 0 rfl) (TS_ag HL.out)) rfl ⟨rfl, hm.below⟩
set_option maxRecDepth 100000 in
set_option maxHeartbeats 1000000 in
theorem next_more (l : List Int) (s b n d bit : Int) (w0 : World) (hl : l.length = 258) (hb : b = 4) (hbit : bit = 1) : Calls Tryz.prog 144 #[.agg (TS l s b n d), .int .i64 bit] w0 (fun e w' => (e = .returned (.tuple #[.agg (TS l s 5 n d), .bool (true)])) ∧ Below w0.heap.size w0 w') := by
  have HL := Lib.hid hl
  clear hl
  subst hb hbit
  go_enter Tryz.func144, Tryz.ntmps144
  have hm := Own.nil w0
  go_wp2_with (first
      | (with_reducible refine gBx ?_; (refine list_eff rfl (eff_box hm rfl rfl ?_); clear hm; intro w g hm))
      | (with_reducible refine gAl ?_; (refine list_eff rfl (eff_alloc hm rfl zrTS ?_); clear hm; intro w g2 hm))
      | (with_reducible refine gLd (t := 3) ?_; (refine wpList_run rfl (ld 1 hm rfl rfl rfl (ot rfl) (by first | exact (TS_at_s HL.out) | exact (TS_at_b HL.out) | exact (TS_at_n HL.out) | exact (TS_at_d HL.out))) ?_))
      | (with_reducible refine gLd (t := 141) ?_; (refine wpList_run rfl (lda 1 hm rfl rfl rfl (TS_ag HL.out)) ?_))
      | (with_reducible refine gSt (t := 3) ?_; (first | (refine list_eff rfl (eff_cell 1 hm rfl rfl (ev_tmp rfl) rfl (ot rfl) (by first | exact (TS_lt_s HL.out) | exact (TS_lt_b HL.out) | exact (TS_lt_n HL.out) | exact (TS_lt_d HL.out)) rfl rfl (by first | exact (TS_put_s HL.out _) | exact (TS_put_b HL.out _) | exact (TS_put_n HL.out _) | exact (TS_put_d HL.out _)) ?_); clear hm; intro w hm; try simp only [puts, List.cons_append, List.nil_append, List.set] at hm) | (refine list_eff rfl (eff_cell 1 hm rfl rfl ev_k rfl (ot rfl) (by first | exact (TS_lt_s HL.out) | exact (TS_lt_b HL.out) | exact (TS_lt_n HL.out) | exact (TS_lt_d HL.out)) rfl rfl (by first | exact (TS_put_s HL.out _) | exact (TS_put_b HL.out _) | exact (TS_put_n HL.out _) | exact (TS_put_d HL.out _)) ?_); clear hm; intro w hm; try simp only [puts, List.cons_append, List.nil_append, List.set] at hm)))
      | (with_reducible refine gSt (t := 141) ?_; (refine list_eff rfl (eff_store 0 hm rfl rfl (ev_tmp rfl) rfl (TS_ag HL.out) (size_TSS HL.out len_z258) (TS_one _ _ _ _ _) ?_); clear hm; intro w hm; try simp only [puts, List.cons_append, List.nil_append, List.set] at hm)))
  refine bodyPost_ret (results_agg2 rfl rfl (hm.row 0 rfl) (TS_ag HL.out)) rfl ⟨rfl, hm.below⟩
set_option maxRecDepth 100000 in
set_option maxHeartbeats 1000000 in
theorem next_up (l : List Int) (s b n d bit : Int) (w0 : World) (hl : l.length = 258) (hb : b = 5) (hbit : bit = 0) (n0 : 0 ≤ n) (n1 : n ≤ 15) : Calls Tryz.prog 144 #[.agg (TS l s b n d), .int .i64 bit] w0 (fun e w' => (e = .returned (.tuple #[.agg (TS l s 4 (n + 1) 1), .bool (decide (d ≠ 2 ∧ n < 15))])) ∧ Below w0.heap.size w0 w') := by
  have HL := Lib.hid hl
  clear hl
  subst hb hbit
  have w1 : IntKind.i64.wrap (n + 1) = n + 1 := IntWalk.i64_in _ (by omega)
  clear n0 n1
  by_cases hd : d = 2
  · subst hd
    rw [show decide (2 ≠ (2 : Int) ∧ n < 15) = false by simp]
    go_enter Tryz.func144, Tryz.ntmps144
    have hm := Own.nil w0
    go_wp2_with (first
        | (with_reducible refine gBx ?_; (refine list_eff rfl (eff_box hm rfl rfl ?_); clear hm; intro w g hm))
        | (with_reducible refine gAl ?_; (refine list_eff rfl (eff_alloc hm rfl zrTS ?_); clear hm; intro w g2 hm))
        | (with_reducible refine gLd (t := 3) ?_; (refine wpList_run rfl (ld 1 hm rfl rfl rfl (ot rfl) (by first | exact (TS_at_s HL.out) | exact (TS_at_b HL.out) | exact (TS_at_n HL.out) | exact (TS_at_d HL.out))) ?_))
        | (with_reducible refine gLd (t := 141) ?_; (refine wpList_run rfl (lda 1 hm rfl rfl rfl (TS_ag HL.out)) ?_))
        | (with_reducible refine gSt (t := 3) ?_; (first | (refine list_eff rfl (eff_cell 1 hm rfl rfl (ev_tmp rfl) rfl (ot rfl) (by first | exact (TS_lt_s HL.out) | exact (TS_lt_b HL.out) | exact (TS_lt_n HL.out) | exact (TS_lt_d HL.out)) rfl rfl (by first | exact (TS_put_s HL.out _) | exact (TS_put_b HL.out _) | exact (TS_put_n HL.out _) | exact (TS_put_d HL.out _)) ?_); clear hm; intro w hm; try simp only [puts, List.cons_append, List.nil_append, List.set] at hm) | (refine list_eff rfl (eff_cell 1 hm rfl rfl ev_k rfl (ot rfl) (by first | exact (TS_lt_s HL.out) | exact (TS_lt_b HL.out) | exact (TS_lt_n HL.out) | exact (TS_lt_d HL.out)) rfl rfl (by first | exact (TS_put_s HL.out _) | exact (TS_put_b HL.out _) | exact (TS_put_n HL.out _) | exact (TS_put_d HL.out _)) ?_); clear hm; intro w hm; try simp only [puts, List.cons_append, List.nil_append, List.set] at hm)))
        | (with_reducible refine gSt (t := 141) ?_; (refine list_eff rfl (eff_store 0 hm rfl rfl (ev_tmp rfl) rfl (TS_ag HL.out) (size_TSS HL.out len_z258) (TS_one _ _ _ _ _) ?_); clear hm; intro w hm; try simp only [puts, List.cons_append, List.nil_append, List.set] at hm)))
    refine bodyPost_ret (results_agg2 rfl rfl (hm.row 0 rfl) (TS_ag HL.out)) rfl ⟨rfl, hm.below⟩
  have q0 : (d == 2) = false := by simpa using hd
  have q0b : (d != 2) = true := by simpa using hd
  by_cases hc : n < 15
  · have q1 : decide (n < 15) = true := decide_eq_true hc
    rw [decide_eq_true ⟨hd, hc⟩]
    clear hd hc
    go_enter Tryz.func144, Tryz.ntmps144
    have hm := Own.nil w0
    go_wp2_with (first
        | (with_reducible refine gBx ?_; (refine list_eff rfl (eff_box hm rfl rfl ?_); clear hm; intro w g hm))
        | (with_reducible refine gAl ?_; (refine list_eff rfl (eff_alloc hm rfl zrTS ?_); clear hm; intro w g2 hm))
        | (with_reducible refine gLd (t := 3) ?_; (refine wpList_run rfl (ld 1 hm rfl rfl rfl (ot rfl) (by first | exact (TS_at_s HL.out) | exact (TS_at_b HL.out) | exact (TS_at_n HL.out) | exact (TS_at_d HL.out))) ?_))
        | (with_reducible refine gLd (t := 141) ?_; (refine wpList_run rfl (lda 1 hm rfl rfl rfl (TS_ag HL.out)) ?_))
        | (with_reducible refine gSt (t := 3) ?_; (first | (refine list_eff rfl (eff_cell 1 hm rfl rfl (ev_tmp rfl) rfl (ot rfl) (by first | exact (TS_lt_s HL.out) | exact (TS_lt_b HL.out) | exact (TS_lt_n HL.out) | exact (TS_lt_d HL.out)) rfl rfl (by first | exact (TS_put_s HL.out _) | exact (TS_put_b HL.out _) | exact (TS_put_n HL.out _) | exact (TS_put_d HL.out _)) ?_); clear hm; intro w hm; try simp only [puts, List.cons_append, List.nil_append, List.set] at hm) | (refine list_eff rfl (eff_cell 1 hm rfl rfl ev_k rfl (ot rfl) (by first | exact (TS_lt_s HL.out) | exact (TS_lt_b HL.out) | exact (TS_lt_n HL.out) | exact (TS_lt_d HL.out)) rfl rfl (by first | exact (TS_put_s HL.out _) | exact (TS_put_b HL.out _) | exact (TS_put_n HL.out _) | exact (TS_put_d HL.out _)) ?_); clear hm; intro w hm; try simp only [puts, List.cons_append, List.nil_append, List.set] at hm)))
        | (with_reducible refine gSt (t := 141) ?_; (refine list_eff rfl (eff_store 0 hm rfl rfl (ev_tmp rfl) rfl (TS_ag HL.out) (size_TSS HL.out len_z258) (TS_one _ _ _ _ _) ?_); clear hm; intro w hm; try simp only [puts, List.cons_append, List.nil_append, List.set] at hm)))
    refine bodyPost_ret (results_agg2 rfl rfl (hm.row 0 rfl) (TS_ag HL.out)) rfl ⟨rfl, hm.below⟩
  · have q1 : decide (n < 15) = false := decide_eq_false hc
    rw [decide_eq_false (fun h => hc h.2)]
    clear hd hc
    go_enter Tryz.func144, Tryz.ntmps144
    have hm := Own.nil w0
    go_wp2_with (first
        | (with_reducible refine gBx ?_; (refine list_eff rfl (eff_box hm rfl rfl ?_); clear hm; intro w g hm))
        | (with_reducible refine gAl ?_; (refine list_eff rfl (eff_alloc hm rfl zrTS ?_); clear hm; intro w g2 hm))
        | (with_reducible refine gLd (t := 3) ?_; (refine wpList_run rfl (ld 1 hm rfl rfl rfl (ot rfl) (by first | exact (TS_at_s HL.out) | exact (TS_at_b HL.out) | exact (TS_at_n HL.out) | exact (TS_at_d HL.out))) ?_))
        | (with_reducible refine gLd (t := 141) ?_; (refine wpList_run rfl (lda 1 hm rfl rfl rfl (TS_ag HL.out)) ?_))
        | (with_reducible refine gSt (t := 3) ?_; (first | (refine list_eff rfl (eff_cell 1 hm rfl rfl (ev_tmp rfl) rfl (ot rfl) (by first | exact (TS_lt_s HL.out) | exact (TS_lt_b HL.out) | exact (TS_lt_n HL.out) | exact (TS_lt_d HL.out)) rfl rfl (by first | exact (TS_put_s HL.out _) | exact (TS_put_b HL.out _) | exact (TS_put_n HL.out _) | exact (TS_put_d HL.out _)) ?_); clear hm; intro w hm; try simp only [puts, List.cons_append, List.nil_append, List.set] at hm) | (refine list_eff rfl (eff_cell 1 hm rfl rfl ev_k rfl (ot rfl) (by first | exact (TS_lt_s HL.out) | exact (TS_lt_b HL.out) | exact (TS_lt_n HL.out) | exact (TS_lt_d HL.out)) rfl rfl (by first | exact (TS_put_s HL.out _) | exact (TS_put_b HL.out _) | exact (TS_put_n HL.out _) | exact (TS_put_d HL.out _)) ?_); clear hm; intro w hm; try simp only [puts, List.cons_append, List.nil_append, List.set] at hm)))
        | (with_reducible refine gSt (t := 141) ?_; (refine list_eff rfl (eff_store 0 hm rfl rfl (ev_tmp rfl) rfl (TS_ag HL.out) (size_TSS HL.out len_z258) (TS_one _ _ _ _ _) ?_); clear hm; intro w hm; try simp only [puts, List.cons_append, List.nil_append, List.set] at hm)))
    refine bodyPost_ret (results_agg2 rfl rfl (hm.row 0 rfl) (TS_ag HL.out)) rfl ⟨rfl, hm.below⟩
set_option maxRecDepth 100000 in
set_option maxHeartbeats 1000000 in
theorem next_down (l : List Int) (s b n d bit : Int) (w0 : World) (hl : l.length = 258) (hb : b = 5) (hbit : bit = 1) (n0 : 0 ≤ n) (n1 : n ≤ 15) : Calls Tryz.prog 144 #[.agg (TS l s b n d), .int .i64 bit] w0 (fun e w' => (e = .returned (.tuple #[.agg (TS l s 4 (n - 1) 2), .bool (decide (d ≠ 1 ∧ 0 < n))])) ∧ Below w0.heap.size w0 w') := by
  have HL := Lib.hid hl
  clear hl
  subst hb hbit
  have w1 : IntKind.i64.wrap (n - 1) = n - 1 := IntWalk.i64_in _ (by omega)
  clear n0 n1
  by_cases hd : d = 1
  · subst hd
    rw [show decide (1 ≠ (1 : Int) ∧ 0 < n) = false by simp]
    go_enter Tryz.func144, Tryz.ntmps144
    have hm := Own.nil w0
    go_wp2_with (first
        | (with_reducible refine gBx ?_; (refine list_eff rfl (eff_box hm rfl rfl ?_); clear hm; intro w g hm))
        | (with_reducible refine gAl ?_; (refine list_eff rfl (eff_alloc hm rfl zrTS ?_); clear hm; intro w g2 hm))
        | (with_reducible refine gLd (t := 3) ?_; (refine wpList_run rfl (ld 1 hm rfl rfl rfl (ot rfl) (by first | exact (TS_at_s HL.out) | exact (TS_at_b HL.out) | exact (TS_at_n HL.out) | exact (TS_at_d HL.out))) ?_))
        | (with_reducible refine gLd (t := 141) ?_; (refine wpList_run rfl (lda 1 hm rfl rfl rfl (TS_ag HL.out)) ?_))
        | (with_reducible refine gSt (t := 3) ?_; (first | (refine list_eff rfl (eff_cell 1 hm rfl rfl (ev_tmp rfl) rfl (ot rfl) (by first | exact (TS_lt_s HL.out) | exact (TS_lt_b HL.out) | exact (TS_lt_n HL.out) | exact (TS_lt_d HL.out)) rfl rfl (by first | exact (TS_put_s HL.out _) | exact (TS_put_b HL.out _) | exact (TS_put_n HL.out _) | exact (TS_put_d HL.out _)) ?_); clear hm; intro w hm; try simp only [puts, List.cons_append, List.nil_append, List.set] at hm) | (refine list_eff rfl (eff_cell 1 hm rfl rfl ev_k rfl (ot rfl) (by first | exact (TS_lt_s HL.out) | exact (TS_lt_b HL.out) | exact (TS_lt_n HL.out) | exact (TS_lt_d HL.out)) rfl rfl (by first | exact (TS_put_s HL.out _) | exact (TS_put_b HL.out _) | exact (TS_put_n HL.out _) | exact (TS_put_d HL.out _)) ?_); clear hm; intro w hm; try simp only [puts, List.cons_append, List.nil_append, List.set] at hm)))
        | (with_reducible refine gSt (t := 141) ?_; (refine list_eff rfl (eff_store 0 hm rfl rfl (ev_tmp rfl) rfl (TS_ag HL.out) (size_TSS HL.out len_z258) (TS_one _ _ _ _ _) ?_); clear hm; intro w hm; try simp only [puts, List.cons_append, List.nil_append, List.set] at hm)))
    refine bodyPost_ret (results_agg2 rfl rfl (hm.row 0 rfl) (TS_ag HL.out)) rfl ⟨rfl, hm.below⟩
  have q0 : (d == 1) = false := by simpa using hd
  have q0b : (d != 1) = true := by simpa using hd
  by_cases hc : 0 < n
  · have q1 : decide (0 < n) = true := decide_eq_true hc
    rw [decide_eq_true ⟨hd, hc⟩]
    clear hd hc
    go_enter Tryz.func144, Tryz.ntmps144
    have hm := Own.nil w0
    go_wp2_with (first
        | (with_reducible refine gBx ?_; (refine list_eff rfl (eff_box hm rfl rfl ?_); clear hm; intro w g hm))
        | (with_reducible refine gAl ?_; (refine list_eff rfl (eff_alloc hm rfl zrTS ?_); clear hm; intro w g2 hm))
        | (with_reducible refine gLd (t := 3) ?_; (refine wpList_run rfl (ld 1 hm rfl rfl rfl (ot rfl) (by first | exact (TS_at_s HL.out) | exact (TS_at_b HL.out) | exact (TS_at_n HL.out) | exact (TS_at_d HL.out))) ?_))
        | (with_reducible refine gLd (t := 141) ?_; (refine wpList_run rfl (lda 1 hm rfl rfl rfl (TS_ag HL.out)) ?_))
        | (with_reducible refine gSt (t := 3) ?_; (first | (refine list_eff rfl (eff_cell 1 hm rfl rfl (ev_tmp rfl) rfl (ot rfl) (by first | exact (TS_lt_s HL.out) | exact (TS_lt_b HL.out) | exact (TS_lt_n HL.out) | exact (TS_lt_d HL.out)) rfl rfl (by first | exact (TS_put_s HL.out _) | exact (TS_put_b HL.out _) | exact (TS_put_n HL.out _) | exact (TS_put_d HL.out _)) ?_); clear hm; intro w hm; try simp only [puts, List.cons_append, List.nil_append, List.set] at hm) | (refine list_eff rfl (eff_cell 1 hm rfl rfl ev_k rfl (ot rfl) (by first | exact (TS_lt_s HL.out) | exact (TS_lt_b HL.out) | exact (TS_lt_n HL.out) | exact (TS_lt_d HL.out)) rfl rfl (by first | exact (TS_put_s HL.out _) | exact (TS_put_b HL.out _) | exact (TS_put_n HL.out _) | exact (TS_put_d HL.out _)) ?_); clear hm; intro w hm; try simp only [puts, List.cons_append, List.nil_append, List.set] at hm)))
        | (with_reducible refine gSt (t := 141) ?_; (refine list_eff rfl (eff_store 0 hm rfl rfl (ev_tmp rfl) rfl (TS_ag HL.out) (size_TSS HL.out len_z258) (TS_one _ _ _ _ _) ?_); clear hm; intro w hm; try simp only [puts, List.cons_append, List.nil_append, List.set] at hm)))
    refine bodyPost_ret (results_agg2 rfl rfl (hm.row 0 rfl) (TS_ag HL.out)) rfl ⟨rfl, hm.below⟩
  · have q1 : decide (0 < n) = false := decide_eq_false hc
    rw [decide_eq_false (fun h => hc h.2)]
    clear hd hc
    go_enter Tryz.func144, Tryz.ntmps144
    have hm := Own.nil w0
    go_wp2_with (first
        | (with_reducible refine gBx ?_; (refine list_eff rfl (eff_box hm rfl rfl ?_); clear hm; intro w g hm))
        | (with_reducible refine gAl ?_; (refine list_eff rfl (eff_alloc hm rfl zrTS ?_); clear hm; intro w g2 hm))
        | (with_reducible refine gLd (t := 3) ?_; (refine wpList_run rfl (ld 1 hm rfl rfl rfl (ot rfl) (by first | exact (TS_at_s HL.out) | exact (TS_at_b HL.out) | exact (TS_at_n HL.out) | exact (TS_at_d HL.out))) ?_))
        | (with_reducible refine gLd (t := 141) ?_; (refine wpList_run rfl (lda 1 hm rfl rfl rfl (TS_ag HL.out)) ?_))
        | (with_reducible refine gSt (t := 3) ?_; (first | (refine list_eff rfl (eff_cell 1 hm rfl rfl (ev_tmp rfl) rfl (ot rfl) (by first | exact (TS_lt_s HL.out) | exact (TS_lt_b HL.out) | exact (TS_lt_n HL.out) | exact (TS_lt_d HL.out)) rfl rfl (by first | exact (TS_put_s HL.out _) | exact (TS_put_b HL.out _) | exact (TS_put_n HL.out _) | exact (TS_put_d HL.out _)) ?_); clear hm; intro w hm; try simp only [puts, List.cons_append, List.nil_append, List.set] at hm) | (refine list_eff rfl (eff_cell 1 hm rfl rfl ev_k rfl (ot rfl) (by first | exact (TS_lt_s HL.out) | exact (TS_lt_b HL.out) | exact (TS_lt_n HL.out) | exact (TS_lt_d HL.out)) rfl rfl (by first | exact (TS_put_s HL.out _) | exact (TS_put_b HL.out _) | exact (TS_put_n HL.out _) | exact (TS_put_d HL.out _)) ?_); clear hm; intro w hm; try simp only [puts, List.cons_append, List.nil_append, List.set] at hm)))
        | (with_reducible refine gSt (t := 141) ?_; (refine list_eff rfl (eff_store 0 hm rfl rfl (ev_tmp rfl) rfl (TS_ag HL.out) (size_TSS HL.out len_z258) (TS_one _ _ _ _ _) ?_); clear hm; intro w hm; try simp only [puts, List.cons_append, List.nil_append, List.set] at hm)))
    refine bodyPost_ret (results_agg2 rfl rfl (hm.row 0 rfl) (TS_ag HL.out)) rfl ⟨rfl, hm.below⟩
end Go.Proofs.YtkpbhdhkdonghaaGreat

namespace Go.Proofs.YtkpbhdhkdonghaaGreat
open Go Go.RowKit
theorem TS_ltk {l : List Int} {s b n d : Int} (hl : l.length = 258) {k : Nat} (hk : k < 258) : k < (TS l s b n d).size := by rw [TS_size hl]; omega
theorem len_set {l : List Int} (hl : l.length = 258) (k : Nat) (n : Int) : (l.set k n).length = 258 := by rw [List.length_set, hl]
set_option maxRecDepth 100000 in
set_option maxHeartbeats 1000000 in
theorem next_set (l : List Int) (k : Nat) (n d : Int) (w0 : World) (hl : l.length = 258) (hk : k < 258) (n0 : 0 ≤ n) (n1 : n ≤ 15) (hs : k + 1 < 258) : Calls Tryz.prog 144 #[.agg (TS l k 4 n d), .int .i64 0] w0 (fun e w' => (e = .returned (.tuple #[.agg (TS (l.set k n) (k + 1) 4 n 0), .bool true])) ∧ Below w0.heap.size w0 w') := by
  have HL := Lib.hid hl
  have HM0 := Lib.hid (len_set hl k n)
  have HM : Hid True := Lib.hid trivial
  have w1 : IntKind.u8.wrap n = n := IntWalk.u8_in _ (by omega)
  have w2 : IntKind.i64.wrap ((k : Int) + 1) = (k : Int) + 1 := IntWalk.i64_in _ (by omega)
  have q1 : decide ((k : Int) + 1 < 258) = true := decide_eq_true (by omega)
  clear hl hs n0 n1
  go_enter Tryz.func144, Tryz.ntmps144
  have hm := Own.nil w0
  go_upto_region 9 with (first
      | (with_reducible refine gBx ?_; (refine list_eff rfl (eff_box hm rfl rfl ?_); clear hm; intro w g hm))
      | (with_reducible refine gAl ?_; (refine list_eff rfl (eff_alloc hm rfl zrTS ?_); clear hm; intro w g2 hm))
      | (with_reducible refine gLd (t := 3) ?_; (refine wpList_run rfl (ld 1 hm rfl rfl rfl (ot rfl) (by first | exact (TS_at_s HL.out) | exact (TS_at_b HL.out) | exact (TS_at_n HL.out) | exact (TS_at_d HL.out) | exact (TS_at_s HM.out) | exact (TS_at_b HM.out) | exact (TS_at_n HM.out) | exact (TS_at_d HM.out))) ?_))
      | (with_reducible refine gSt (t := 5) ?_; (refine list_eff rfl (eff_cell 1 hm rfl rfl (ev_tmp rfl) rfl (ot rfl) (TS_ltk HL.out hk) rfl rfl (TS_put_l HL.out k hk n) ?_); clear hm; intro w hm; try simp only [puts, List.cons_append, List.nil_append, List.set] at hm; have HM := HM0; have HL : Hid True := Lib.hid trivial))
      | (with_reducible refine gSt (t := 3) ?_; (first | (refine list_eff rfl (eff_cell 1 hm rfl rfl (ev_tmp rfl) rfl (ot rfl) (by first | exact (TS_lt_s HM.out) | exact (TS_lt_b HM.out) | exact (TS_lt_n HM.out) | exact (TS_lt_d HM.out)) rfl rfl (by first | exact (TS_put_s HM.out _) | exact (TS_put_b HM.out _) | exact (TS_put_n HM.out _) | exact (TS_put_d HM.out _)) ?_); clear hm; intro w hm; try simp only [puts, List.cons_append, List.nil_append, List.set] at hm) | (refine list_eff rfl (eff_cell 1 hm rfl rfl ev_k rfl (ot rfl) (by first | exact (TS_lt_s HM.out) | exact (TS_lt_b HM.out) | exact (TS_lt_n HM.out) | exact (TS_lt_d HM.out)) rfl rfl (by first | exact (TS_put_s HM.out _) | exact (TS_put_b HM.out _) | exact (TS_put_n HM.out _) | exact (TS_put_d HM.out _)) ?_); clear hm; intro w hm; try simp only [puts, List.cons_append, List.nil_append, List.set] at hm))))
  refine wp_region_KO hm 9 (.rds [(0, true), (1, false), (2, true), (3, false), (4, false), (5, false), (6, true)] (.one 7 (.rds [(8, false)] (.brk 9 11 (.rds [(10, false)] .done))))) rfl (by kernel_rfl) rfl (by kernel_rfl) (fun _ _ d _ _ h => by cases d <;> exact h) ?_
  clear hm
  intro w hm
  simp only [KT.rds]
  (refine K_m rfl rfl (fun W hm => lda 1 hm rfl rfl rfl (TS_ag HM.out)) ?_)
  try simp only [Act.put, List.setIfInBounds_toArray, List.set_cons_zero, List.set_cons_succ]
  (refine K_p rfl rfl (fun W => by go_simp; rfl) ?_)
  try simp only [Act.put, List.setIfInBounds_toArray, List.set_cons_zero, List.set_cons_succ]
  (refine K_m rfl rfl (fun W hm => ld 1 hm rfl rfl rfl (ot rfl) (TS_at_s HM.out)) ?_)
  try simp only [Act.put, List.setIfInBounds_toArray, List.set_cons_zero, List.set_cons_succ]
  (refine K_p rfl rfl (fun W => by go_simp; rfl) ?_)
  try simp only [Act.put, List.setIfInBounds_toArray, List.set_cons_zero, List.set_cons_succ]
  (refine K_p rfl rfl (fun W => by go_simp; rfl) ?_)
  try simp only [Act.put, List.setIfInBounds_toArray, List.set_cons_zero, List.set_cons_succ]
  (first | (refine K_p rfl rfl (fun W => by go_simp; rfl) ?_) | (refine K_pass rfl rfl ?_))
  try simp only [Act.put, List.setIfInBounds_toArray, List.set_cons_zero, List.set_cons_succ]
  (first | (refine K_m rfl rfl (fun W hm => ldp 1 hm rfl rfl rfl (TS_sub_l HM.out) (aggN HM.out) (TS_fit_l HM.out)) ?_) | (refine K_mpass rfl rfl ?_))
  try simp only [Act.put, List.setIfInBounds_toArray, List.set_cons_zero, List.set_cons_succ]
  refine one_pass hm rfl rfl ?_
  try simp only [Act.put, List.setIfInBounds_toArray, List.set_cons_zero, List.set_cons_succ]
  (refine K_p rfl rfl (fun W => by go_simp; rfl) ?_)
  try simp only [Act.put, List.setIfInBounds_toArray, List.set_cons_zero, List.set_cons_succ]
  (refine brk_eff rfl rfl (eff_store 0 hm rfl rfl (ev_tmp rfl) rfl (TS_ag HM.out) (size_TSS HM.out len_z258) (TS_one _ _ _ _ _) ?_))
  clear hm
  intro w hm
  try simp only [puts, List.cons_append, List.nil_append, List.set, List.eraseIdx, List.setIfInBounds_toArray, List.set_cons_zero, List.set_cons_succ] at hm
  refine ⟨fun W => Own _ W _ _, hm, ?_⟩
  try simp only [Act.put, List.setIfInBounds_toArray, List.set_cons_zero, List.set_cons_succ]
  (refine K_p rfl rfl (fun W => by go_simp; rfl) ?_)
  try simp only [Act.put, List.setIfInBounds_toArray, List.set_cons_zero, List.set_cons_succ]
  refine K_done ?_
  go_simp
  go_wp2
  refine bodyPost_ret (results_agg2 rfl rfl (hm.row 0 rfl) (TS_ag HM.out)) rfl ⟨rfl, hm.below⟩
set_option maxRecDepth 100000 in
set_option maxHeartbeats 1000000 in
theorem next_last (l : List Int) (k : Nat) (n d : Int) (w0 : World) (hl : l.length = 258) (hk : k < 258) (n0 : 0 ≤ n) (n1 : n ≤ 15) (hb : Bytes l) (hs : k + 1 = 258) : Calls Tryz.prog 144 #[.agg (TS l k 4 n d), .int .i64 0] w0 (fun e w' => (e = .returned (.tuple #[.agg (TS (l.set k n) (k + 1) 4 n 0), .bool (ktab (l.set k n))])) ∧ Below w0.heap.size w0 w') := by
  have HL := Lib.hid hl
  have HM0 := Lib.hid (len_set hl k n)
  have HM : Hid True := Lib.hid trivial
  have w1 : IntKind.u8.wrap n = n := IntWalk.u8_in _ (by omega)
  have w2 : IntKind.i64.wrap ((k : Int) + 1) = (k : Int) + 1 := IntWalk.i64_in _ (by omega)
  have q1 : decide ((k : Int) + 1 < 258) = false := decide_eq_false (by omega)
  have CT := Lib.hid (fun w => table_any (l.set k n) w HM0.out (fun x hx => by rcases List.mem_or_eq_of_mem_set hx with h | rfl; exact hb x h; omega))
  generalize ktab (l.set k n) = z at *
  clear hl hs n0 n1 hb
  go_enter Tryz.func144, Tryz.ntmps144
  have hm := Own.nil w0
  go_upto_region 9 with (first
      | (with_reducible refine gBx ?_; (refine list_eff rfl (eff_box hm rfl rfl ?_); clear hm; intro w g hm))
      | (with_reducible refine gAl ?_; (refine list_eff rfl (eff_alloc hm rfl zrTS ?_); clear hm; intro w g2 hm))
      | (with_reducible refine gLd (t := 3) ?_; (refine wpList_run rfl (ld 1 hm rfl rfl rfl (ot rfl) (by first | exact (TS_at_s HL.out) | exact (TS_at_b HL.out) | exact (TS_at_n HL.out) | exact (TS_at_d HL.out) | exact (TS_at_s HM.out) | exact (TS_at_b HM.out) | exact (TS_at_n HM.out) | exact (TS_at_d HM.out))) ?_))
      | (with_reducible refine gSt (t := 5) ?_; (refine list_eff rfl (eff_cell 1 hm rfl rfl (ev_tmp rfl) rfl (ot rfl) (TS_ltk HL.out hk) rfl rfl (TS_put_l HL.out k hk n) ?_); clear hm; intro w hm; try simp only [puts, List.cons_append, List.nil_append, List.set] at hm; have HM := HM0; have HL : Hid True := Lib.hid trivial))
      | (with_reducible refine gSt (t := 3) ?_; (first | (refine list_eff rfl (eff_cell 1 hm rfl rfl (ev_tmp rfl) rfl (ot rfl) (by first | exact (TS_lt_s HM.out) | exact (TS_lt_b HM.out) | exact (TS_lt_n HM.out) | exact (TS_lt_d HM.out)) rfl rfl (by first | exact (TS_put_s HM.out _) | exact (TS_put_b HM.out _) | exact (TS_put_n HM.out _) | exact (TS_put_d HM.out _)) ?_); clear hm; intro w hm; try simp only [puts, List.cons_append, List.nil_append, List.set] at hm) | (refine list_eff rfl (eff_cell 1 hm rfl rfl ev_k rfl (ot rfl) (by first | exact (TS_lt_s HM.out) | exact (TS_lt_b HM.out) | exact (TS_lt_n HM.out) | exact (TS_lt_d HM.out)) rfl rfl (by first | exact (TS_put_s HM.out _) | exact (TS_put_b HM.out _) | exact (TS_put_n HM.out _) | exact (TS_put_d HM.out _)) ?_); clear hm; intro w hm; try simp only [puts, List.cons_append, List.nil_append, List.set] at hm))))
  refine wp_region_KO hm 9 (.rds [(0, true), (1, false), (2, true), (3, false), (4, false), (5, false), (6, true)] (.one 7 (.rds [(8, false)] (.brk 9 11 (.rds [(10, false)] .done))))) rfl (by kernel_rfl) rfl (by kernel_rfl) (fun _ _ d _ _ h => by cases d <;> exact h) ?_
  clear hm
  intro w hm
  simp only [KT.rds]
  (refine K_m rfl rfl (fun W hm => lda 1 hm rfl rfl rfl (TS_ag HM.out)) ?_)
  try simp only [Act.put, List.setIfInBounds_toArray, List.set_cons_zero, List.set_cons_succ]
  (refine K_p rfl rfl (fun W => by go_simp; rfl) ?_)
  try simp only [Act.put, List.setIfInBounds_toArray, List.set_cons_zero, List.set_cons_succ]
  (refine K_m rfl rfl (fun W hm => ld 1 hm rfl rfl rfl (ot rfl) (TS_at_s HM.out)) ?_)
  try simp only [Act.put, List.setIfInBounds_toArray, List.set_cons_zero, List.set_cons_succ]
  (refine K_p rfl rfl (fun W => by go_simp; rfl) ?_)
  try simp only [Act.put, List.setIfInBounds_toArray, List.set_cons_zero, List.set_cons_succ]
  (refine K_p rfl rfl (fun W => by go_simp; rfl) ?_)
  try simp only [Act.put, List.setIfInBounds_toArray, List.set_cons_zero, List.set_cons_succ]
  (first | (refine K_p rfl rfl (fun W => by go_simp; rfl) ?_) | (refine K_pass rfl rfl ?_))
  try simp only [Act.put, List.setIfInBounds_toArray, List.set_cons_zero, List.set_cons_succ]
  (first | (refine K_m rfl rfl (fun W hm => ldp 1 hm rfl rfl rfl (TS_sub_l HM.out) (aggN HM.out) (TS_fit_l HM.out)) ?_) | (refine K_mpass rfl rfl ?_))
  try simp only [Act.put, List.setIfInBounds_toArray, List.set_cons_zero, List.set_cons_succ]
  refine one_do rfl rfl (fun K hK => ?_)
  go_simp
  refine (CT.out _).mono ?_
  rintro e w1 ⟨rfl, hb⟩
  replace hm := hm.call hb
  clear hb
  refine hK _ _ ⟨fun W => Own _ W _ _, fun _ h => h, hm, ?_⟩
  clear hK K
  try simp only [Act.put, List.setIfInBounds_toArray, List.set_cons_zero, List.set_cons_succ]
  (refine K_p rfl rfl (fun W => by go_simp; rfl) ?_)
  try simp only [Act.put, List.setIfInBounds_toArray, List.set_cons_zero, List.set_cons_succ]
  (refine brk_eff rfl rfl (eff_store 0 hm rfl rfl (ev_tmp rfl) rfl (TS_ag HM.out) (size_TSS HM.out len_z258) (TS_one _ _ _ _ _) ?_))
  clear hm
  intro w hm
  try simp only [puts, List.cons_append, List.nil_append, List.set, List.eraseIdx, List.setIfInBounds_toArray, List.set_cons_zero, List.set_cons_succ] at hm
  refine ⟨fun W => Own _ W _ _, hm, ?_⟩
  try simp only [Act.put, List.setIfInBounds_toArray, List.set_cons_zero, List.set_cons_succ]
  (refine K_p rfl rfl (fun W => by go_simp; rfl) ?_)
  try simp only [Act.put, List.setIfInBounds_toArray, List.set_cons_zero, List.set_cons_succ]
  refine K_done ?_
  go_simp
  go_wp2
  refine bodyPost_ret (results_agg2 rfl rfl (hm.row 0 rfl) (TS_ag HM.out)) rfl ⟨rfl, hm.below⟩
end Go.Proofs.YtkpbhdhkdonghaaGreat

namespace Go.Proofs.YtkpbhdhkdonghaaGreat
open Go Go.RowKit
set_option maxRecDepth 100000 in
set_option maxHeartbeats 1000000 in
theorem beg_no (l : List Int) (s b n d : Int) (hl : l.length = 258) (hb : 4 ≤ b) (w : World) : Calls Tryz.prog 209 #[.agg (TS l s b n d)] w fun x w' => (x = .returned (.bool false)) ∧ Below w.heap.size w w' := by
  have HL := Lib.hid hl
  have CW : Hid (∀ w, Calls Tryz.prog 210 #[.int .i64 b, .int .i64 0, .int .i64 3] w fun x w' => (x = .returned (.bool false)) ∧ w' = w) := Lib.hid fun w => by have := lwithin b 0 3 w; rwa [wi_f (by omega)] at this
  clear hl hb
  go_enter Tryz.func209, Tryz.ntmps209
  have hm := Own.nil w
  go_upto_region 1 with (first
      | (refine list_eff rfl (eff_box hm rfl rfl ?_); clear hm; intro w g hm))
  refine wp_region_KO hm 2 (.rds [(0, false), (1, true)] (.brk 2 10 (.rds [(3, false), (4, false), (5, true), (6, false), (7, true), (8, false), (9, false)] (.brk 10 22 (.rds [(11, false), (12, false), (13, true), (14, false), (15, true), (16, false), (17, true), (18, false), (19, false), (20, false), (21, false)] .done))))) rfl (by kernel_rfl) rfl (by kernel_rfl) (fun _ _ d _ _ h => by cases d <;> exact h) ?_
  clear hm
  intro w hm
  simp only [KT.rds]
  (refine K_p rfl rfl (fun W => by go_simp; rfl) ?_)
  try simp only [Act.put, List.setIfInBounds_toArray, List.set_cons_zero, List.set_cons_succ]
  (first | (refine K_m rfl rfl (fun W hm => ld 0 hm rfl rfl rfl (ot rfl) (TS_at_s HL.out)) ?_) | (refine K_m rfl rfl (fun W hm => ld 0 hm rfl rfl rfl (ot rfl) (TS_at_b HL.out)) ?_) | (refine K_m rfl rfl (fun W hm => ld 0 hm rfl rfl rfl (ot rfl) (TS_at_n HL.out)) ?_) | (refine K_m rfl rfl (fun W hm => ld 0 hm rfl rfl rfl (ot rfl) (TS_at_d HL.out)) ?_))
  try simp only [Act.put, List.setIfInBounds_toArray, List.set_cons_zero, List.set_cons_succ]
  refine brk_do rfl rfl (fun K hK => ?_)
  go_simp
  refine (CW.out _).mono ?_
  rintro e w1 ⟨rfl, rfl⟩
  refine hK _ _ ⟨fun W => Own _ W _ _, hm, ?_⟩
  clear hK K
  try simp only [Act.put, List.setIfInBounds_toArray, List.set_cons_zero, List.set_cons_succ]
  (refine K_p rfl rfl (fun W => by go_simp; rfl) ?_)
  try simp only [Act.put, List.setIfInBounds_toArray, List.set_cons_zero, List.set_cons_succ]
  (first | (refine K_p rfl rfl (fun W => by go_simp; rfl) ?_) | (refine K_pass rfl rfl ?_))
  try simp only [Act.put, List.setIfInBounds_toArray, List.set_cons_zero, List.set_cons_succ]
  (first | (refine K_m rfl rfl (fun W hm => ld 0 hm rfl rfl rfl (ot rfl) (TS_at_s HL.out)) ?_) | (refine K_m rfl rfl (fun W hm => ld 0 hm rfl rfl rfl (ot rfl) (TS_at_b HL.out)) ?_) | (refine K_m rfl rfl (fun W hm => ld 0 hm rfl rfl rfl (ot rfl) (TS_at_n HL.out)) ?_) | (refine K_m rfl rfl (fun W hm => ld 0 hm rfl rfl rfl (ot rfl) (TS_at_d HL.out)) ?_) | (refine K_mpass rfl rfl ?_))
  try simp only [Act.put, List.setIfInBounds_toArray, List.set_cons_zero, List.set_cons_succ]
  (first | (refine K_p rfl rfl (fun W => by go_simp; rfl) ?_) | (refine K_pass rfl rfl ?_))
  try simp only [Act.put, List.setIfInBounds_toArray, List.set_cons_zero, List.set_cons_succ]
  (first | (refine K_m rfl rfl (fun W hm => ld 0 hm rfl rfl rfl (ot rfl) (TS_at_s HL.out)) ?_) | (refine K_m rfl rfl (fun W hm => ld 0 hm rfl rfl rfl (ot rfl) (TS_at_b HL.out)) ?_) | (refine K_m rfl rfl (fun W hm => ld 0 hm rfl rfl rfl (ot rfl) (TS_at_n HL.out)) ?_) | (refine K_m rfl rfl (fun W hm => ld 0 hm rfl rfl rfl (ot rfl) (TS_at_d HL.out)) ?_) | (refine K_mpass rfl rfl ?_))
  try simp only [Act.put, List.setIfInBounds_toArray, List.set_cons_zero, List.set_cons_succ]
  (first | (refine K_p rfl rfl (fun W => by go_simp; (first | (rw [IntWalk.i64_in _ (by omega)]; done) | (rw [IntWalk.i64_in _ (by omega)]; rfl) | rfl)) ?_) | (refine K_pass rfl rfl ?_))
  try simp only [Act.put, List.setIfInBounds_toArray, List.set_cons_zero, List.set_cons_succ]
  (first | (refine K_p rfl rfl (fun W => by go_simp; (first | (rw [IntWalk.i64_in _ (by omega)]; done) | (rw [IntWalk.i64_in _ (by omega)]; rfl) | rfl)) ?_) | (refine K_pass rfl rfl ?_))
  try simp only [Act.put, List.setIfInBounds_toArray, List.set_cons_zero, List.set_cons_succ]
  refine brk_pass hm rfl rfl ?_
  try simp only [Act.put, List.setIfInBounds_toArray, List.set_cons_zero, List.set_cons_succ]
  (refine K_p rfl rfl (fun W => by go_simp; rfl) ?_)
  try simp only [Act.put, List.setIfInBounds_toArray, List.set_cons_zero, List.set_cons_succ]
  (refine K_p rfl rfl (fun W => by go_simp; rfl) ?_)
  try simp only [Act.put, List.setIfInBounds_toArray, List.set_cons_zero, List.set_cons_succ]
  (first | (refine K_m rfl rfl (fun W hm => lda 0 hm rfl rfl rfl (TS_ag HL.out)) ?_) | (refine K_mpass rfl rfl ?_))
  try simp only [Act.put, List.setIfInBounds_toArray, List.set_cons_zero, List.set_cons_succ]
  (first | (refine K_p rfl rfl (fun W => by go_simp; rfl) ?_) | (refine K_pass rfl rfl ?_))
  try simp only [Act.put, List.setIfInBounds_toArray, List.set_cons_zero, List.set_cons_succ]
  (first | (refine K_m rfl rfl (fun W hm => ld 0 hm rfl rfl rfl (ot rfl) (TS_at_s HL.out)) ?_) | (refine K_m rfl rfl (fun W hm => ld 0 hm rfl rfl rfl (ot rfl) (TS_at_b HL.out)) ?_) | (refine K_m rfl rfl (fun W hm => ld 0 hm rfl rfl rfl (ot rfl) (TS_at_n HL.out)) ?_) | (refine K_m rfl rfl (fun W hm => ld 0 hm rfl rfl rfl (ot rfl) (TS_at_d HL.out)) ?_) | (refine K_mpass rfl rfl ?_))
  try simp only [Act.put, List.setIfInBounds_toArray, List.set_cons_zero, List.set_cons_succ]
  (first | (refine K_p rfl rfl (fun W => by go_simp; rfl) ?_) | (refine K_pass rfl rfl ?_))
  try simp only [Act.put, List.setIfInBounds_toArray, List.set_cons_zero, List.set_cons_succ]
  (first | (refine K_m rfl rfl (fun W hm => ld 0 hm rfl rfl rfl (ot rfl) (TS_at_s HL.out)) ?_) | (refine K_m rfl rfl (fun W hm => ld 0 hm rfl rfl rfl (ot rfl) (TS_at_b HL.out)) ?_) | (refine K_m rfl rfl (fun W hm => ld 0 hm rfl rfl rfl (ot rfl) (TS_at_n HL.out)) ?_) | (refine K_m rfl rfl (fun W hm => ld 0 hm rfl rfl rfl (ot rfl) (TS_at_d HL.out)) ?_) | (refine K_mpass rfl rfl ?_))
  try simp only [Act.put, List.setIfInBounds_toArray, List.set_cons_zero, List.set_cons_succ]
  (first | (refine K_p rfl rfl (fun W => by go_simp; rfl) ?_) | (refine K_pass rfl rfl ?_))
  try simp only [Act.put, List.setIfInBounds_toArray, List.set_cons_zero, List.set_cons_succ]
  (first | (refine K_p rfl rfl (fun W => by go_simp; rfl) ?_) | (refine K_pass rfl rfl ?_))
  try simp only [Act.put, List.setIfInBounds_toArray, List.set_cons_zero, List.set_cons_succ]
  (refine K_p rfl rfl (fun W => by go_simp; rfl) ?_)
  try simp only [Act.put, List.setIfInBounds_toArray, List.set_cons_zero, List.set_cons_succ]
  (refine K_p rfl rfl (fun W => by go_simp; rfl) ?_)
  try simp only [Act.put, List.setIfInBounds_toArray, List.set_cons_zero, List.set_cons_succ]
  refine K_done ?_
  go_simp
  go_wp2
  go_ret
  exact ⟨rfl, hm.below⟩
set_option maxRecDepth 100000 in
set_option maxHeartbeats 1000000 in
theorem beg_yes (b n : Int) (hb : b = 0 ∨ b = 1 ∨ b = 2 ∨ b = 3) (n0 : 0 ≤ n) (n1 : n < 2 ^ b.toNat) (w : World) : Calls Tryz.prog 209 #[.agg (TS z258 0 b n 0)] w fun x w' => (x = .returned (.bool true)) ∧ Below w.heap.size w w' := by
  have HL := Lib.hid len_z258
  have CW : Hid (∀ w, Calls Tryz.prog 210 #[.int .i64 b, .int .i64 0, .int .i64 3] w fun x w' => (x = .returned (.bool true)) ∧ w' = w) := Lib.hid fun w => by have := lwithin b 0 3 w; rwa [wi_t (by omega) (by omega)] at this
  have CN : Hid (∀ w, Calls Tryz.prog 210 #[.int .i64 n, .int .i64 0, .int .i64 (2 ^ b.toNat - 1)] w fun x w' => (x = .returned (.bool true)) ∧ w' = w) := Lib.hid fun w => by have := lwithin n 0 (2 ^ b.toNat - 1) w; rwa [wi_t (by omega) (by omega)] at this
  clear n0 n1
  rcases hb with rfl | rfl | rfl | rfl
  all_goals
    go_enter Tryz.func209, Tryz.ntmps209
    have hm := Own.nil w
    go_upto_region 1 with (first
      | (refine list_eff rfl (eff_box hm rfl rfl ?_); clear hm; intro w g hm))
    refine wp_region_KO hm 2 (.rds [(0, false), (1, true)] (.brk 2 10 (.rds [(3, false), (4, false), (5, true), (6, false), (7, true), (8, false), (9, false)] (.brk 10 22 (.rds [(11, false), (12, false), (13, true), (14, false), (15, true), (16, false), (17, true), (18, false), (19, false), (20, false), (21, false)] .done))))) rfl (by kernel_rfl) rfl (by kernel_rfl) (fun _ _ d _ _ h => by cases d <;> exact h) ?_
    clear hm
    intro w hm
    simp only [KT.rds]
    (refine K_p rfl rfl (fun W => by go_simp; rfl) ?_)
    try simp only [Act.put, List.setIfInBounds_toArray, List.set_cons_zero, List.set_cons_succ]
    (first | (refine K_m rfl rfl (fun W hm => ld 0 hm rfl rfl rfl (ot rfl) (TS_at_s HL.out)) ?_) | (refine K_m rfl rfl (fun W hm => ld 0 hm rfl rfl rfl (ot rfl) (TS_at_b HL.out)) ?_) | (refine K_m rfl rfl (fun W hm => ld 0 hm rfl rfl rfl (ot rfl) (TS_at_n HL.out)) ?_) | (refine K_m rfl rfl (fun W hm => ld 0 hm rfl rfl rfl (ot rfl) (TS_at_d HL.out)) ?_))
    try simp only [Act.put, List.setIfInBounds_toArray, List.set_cons_zero, List.set_cons_succ]
    refine brk_do rfl rfl (fun K hK => ?_)
    go_simp
    refine (CW.out _).mono ?_
    rintro e w1 ⟨rfl, rfl⟩
    refine hK _ _ ⟨fun W => Own _ W _ _, hm, ?_⟩
    clear hK K
    try simp only [Act.put, List.setIfInBounds_toArray, List.set_cons_zero, List.set_cons_succ]
    (refine K_p rfl rfl (fun W => by go_simp; rfl) ?_)
    try simp only [Act.put, List.setIfInBounds_toArray, List.set_cons_zero, List.set_cons_succ]
    (first | (refine K_p rfl rfl (fun W => by go_simp; rfl) ?_) | (refine K_pass rfl rfl ?_))
    try simp only [Act.put, List.setIfInBounds_toArray, List.set_cons_zero, List.set_cons_succ]
    (first | (refine K_m rfl rfl (fun W hm => ld 0 hm rfl rfl rfl (ot rfl) (TS_at_s HL.out)) ?_) | (refine K_m rfl rfl (fun W hm => ld 0 hm rfl rfl rfl (ot rfl) (TS_at_b HL.out)) ?_) | (refine K_m rfl rfl (fun W hm => ld 0 hm rfl rfl rfl (ot rfl) (TS_at_n HL.out)) ?_) | (refine K_m rfl rfl (fun W hm => ld 0 hm rfl rfl rfl (ot rfl) (TS_at_d HL.out)) ?_) | (refine K_mpass rfl rfl ?_))
    try simp only [Act.put, List.setIfInBounds_toArray, List.set_cons_zero, List.set_cons_succ]
    (first | (refine K_p rfl rfl (fun W => by go_simp; rfl) ?_) | (refine K_pass rfl rfl ?_))
    try simp only [Act.put, List.setIfInBounds_toArray, List.set_cons_zero, List.set_cons_succ]
    (first | (refine K_m rfl rfl (fun W hm => ld 0 hm rfl rfl rfl (ot rfl) (TS_at_s HL.out)) ?_) | (refine K_m rfl rfl (fun W hm => ld 0 hm rfl rfl rfl (ot rfl) (TS_at_b HL.out)) ?_) | (refine K_m rfl rfl (fun W hm => ld 0 hm rfl rfl rfl (ot rfl) (TS_at_n HL.out)) ?_) | (refine K_m rfl rfl (fun W hm => ld 0 hm rfl rfl rfl (ot rfl) (TS_at_d HL.out)) ?_) | (refine K_mpass rfl rfl ?_))
    try simp only [Act.put, List.setIfInBounds_toArray, List.set_cons_zero, List.set_cons_succ]
    (first | (refine K_p rfl rfl (fun W => by go_simp; (first | (rw [IntWalk.i64_in _ (by omega)]; done) | (rw [IntWalk.i64_in _ (by omega)]; rfl) | rfl)) ?_) | (refine K_pass rfl rfl ?_))
    try simp only [Act.put, List.setIfInBounds_toArray, List.set_cons_zero, List.set_cons_succ]
    (first | (refine K_p rfl rfl (fun W => by go_simp; (first | (rw [IntWalk.i64_in _ (by omega)]; done) | (rw [IntWalk.i64_in _ (by omega)]; rfl) | rfl)) ?_) | (refine K_pass rfl rfl ?_))
    try simp only [Act.put, List.setIfInBounds_toArray, List.set_cons_zero, List.set_cons_succ]
    refine brk_do rfl rfl (fun K hK => ?_)
    go_simp
    refine (CN.out _).mono ?_
    rintro e w1 ⟨rfl, rfl⟩
    refine hK _ _ ⟨fun W => Own _ W _ _, hm, ?_⟩
    clear hK K
    try simp only [Act.put, List.setIfInBounds_toArray, List.set_cons_zero, List.set_cons_succ]
    (refine K_p rfl rfl (fun W => by go_simp; rfl) ?_)
    try simp only [Act.put, List.setIfInBounds_toArray, List.set_cons_zero, List.set_cons_succ]
    (refine K_p rfl rfl (fun W => by go_simp; rfl) ?_)
    try simp only [Act.put, List.setIfInBounds_toArray, List.set_cons_zero, List.set_cons_succ]
    (first | (refine K_m rfl rfl (fun W hm => lda 0 hm rfl rfl rfl (TS_ag HL.out)) ?_) | (refine K_mpass rfl rfl ?_))
    try simp only [Act.put, List.setIfInBounds_toArray, List.set_cons_zero, List.set_cons_succ]
    (first | (refine K_p rfl rfl (fun W => by go_simp; rfl) ?_) | (refine K_pass rfl rfl ?_))
    try simp only [Act.put, List.setIfInBounds_toArray, List.set_cons_zero, List.set_cons_succ]
    (first | (refine K_m rfl rfl (fun W hm => ld 0 hm rfl rfl rfl (ot rfl) (TS_at_s HL.out)) ?_) | (refine K_m rfl rfl (fun W hm => ld 0 hm rfl rfl rfl (ot rfl) (TS_at_b HL.out)) ?_) | (refine K_m rfl rfl (fun W hm => ld 0 hm rfl rfl rfl (ot rfl) (TS_at_n HL.out)) ?_) | (refine K_m rfl rfl (fun W hm => ld 0 hm rfl rfl rfl (ot rfl) (TS_at_d HL.out)) ?_) | (refine K_mpass rfl rfl ?_))
    try simp only [Act.put, List.setIfInBounds_toArray, List.set_cons_zero, List.set_cons_succ]
    (first | (refine K_p rfl rfl (fun W => by go_simp; rfl) ?_) | (refine K_pass rfl rfl ?_))
    try simp only [Act.put, List.setIfInBounds_toArray, List.set_cons_zero, List.set_cons_succ]
    (first | (refine K_m rfl rfl (fun W hm => ld 0 hm rfl rfl rfl (ot rfl) (TS_at_s HL.out)) ?_) | (refine K_m rfl rfl (fun W hm => ld 0 hm rfl rfl rfl (ot rfl) (TS_at_b HL.out)) ?_) | (refine K_m rfl rfl (fun W hm => ld 0 hm rfl rfl rfl (ot rfl) (TS_at_n HL.out)) ?_) | (refine K_m rfl rfl (fun W hm => ld 0 hm rfl rfl rfl (ot rfl) (TS_at_d HL.out)) ?_) | (refine K_mpass rfl rfl ?_))
    try simp only [Act.put, List.setIfInBounds_toArray, List.set_cons_zero, List.set_cons_succ]
    (first | (refine K_p rfl rfl (fun W => exec_build141 rfl rfl rfl) ?_) | (refine K_pass rfl rfl ?_))
    try simp only [Act.put, List.setIfInBounds_toArray, List.set_cons_zero, List.set_cons_succ]
    (first | (refine K_p rfl rfl (fun W => exec_eq141 rfl rfl rfl HL.out) ?_) | (refine K_pass rfl rfl ?_))
    try simp only [Act.put, List.setIfInBounds_toArray, List.set_cons_zero, List.set_cons_succ]
    (refine K_p rfl rfl (fun W => by go_simp; rfl) ?_)
    try simp only [Act.put, List.setIfInBounds_toArray, List.set_cons_zero, List.set_cons_succ]
    (refine K_p rfl rfl (fun W => by go_simp; rfl) ?_)
    try simp only [Act.put, List.setIfInBounds_toArray, List.set_cons_zero, List.set_cons_succ]
    refine K_done ?_
    go_simp
    go_wp2
    go_ret
    exact ⟨rfl, hm.below⟩
end Go.Proofs.YtkpbhdhkdonghaaGreat
