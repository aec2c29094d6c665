/-
  Part 9 of the proof.
-/
import Derived.Laws.Closers25b
import Derived.Laws.Tables
import Derived.Laws.StructEq
import Derived.Test.YtkpbhdhkdonghaaGreatT06
import Derived.Test.YtkpbhdhkdonghaaGreatT07
import Derived.Test.YtkpbhdhkdonghaaGreatT08
set_option linter.all false
namespace Go.Proofs.YtkpbhdhkdonghaaGreat
open Go Go.RowKit
def J (k : IntKind) (l : List Int) : Array Value := (vs k l).toArray
theorem size_J (k : IntKind) (l : List Int) : (J k l).size = l.length := by simp [J, vs]
theorem at_J (k : IntKind) (l : List Int) (i : Nat) (h : i < l.length) : (J k l)[i]? = some (.int k (gi l i)) := by simpa [J] using get_vs k l i h
theorem set_J (k : IntKind) (l : List Int) (i : Nat) (x : Int) : (J k l).setIfInBounds i (.int k x) = J k (l.set i x) := by
  simp [J, vs, List.map_set]
theorem J_one (k : IntKind) (l : List Int) : ∀ v ∈ J k l, v.oneCell' = true := fun v hv => vs_one k l v (by simpa [J] using hv)
def W32 (x : Int) : Prop := 0 ≤ x ∧ x ≤ 4294967295
theorem w32_bits (op : BinOp) (a b : Int) : W32 (bits op .u32 a b) := ⟨(bits_within op .u32 a b).1, (bits_within op .u32 a b).2⟩
theorem one22 : OneTy Tryz.prog 22 := ⟨fun w => by kernel_rfl, by kernel_rfl⟩
theorem one72 : OneTy Tryz.prog 72 := ⟨fun w => by kernel_rfl, by kernel_rfl⟩
theorem agg219 : AggTy Tryz.prog 219 256 := AggTy.mk' Tryz.underlying219 rfl (by kernel_rfl)
theorem zero219 (w : World) : (zeroValue 219).run Tryz.prog w = .ok (.agg (J .u32 zeros)) w := by kernel_rfl
theorem aggT {l : List Int} (h : l.length = 256) : AggTy Tryz.prog 219 (J .u32 l).size := by rw [size_J, h]; exact agg219
def cst (x : Int) : Int := bits .xor .u32 (x / 2) (3988292384 * bits .and .u32 x 1 % 4294967296)
def cit : Nat → Int → Int
  | 0, x => x
  | k + 1, x => cst (cit k x)
def crow (b : Int) : Int := cit 8 b
theorem w32_cit (b : Int) (h0 : 0 ≤ b) (h1 : b < 256) : ∀ k, W32 (cit k b)
  | 0 => ⟨h0, by show b ≤ _; omega⟩
  | k + 1 => by show W32 (cst _); exact w32_bits _ _ _
set_option maxRecDepth 100000 in
set_option maxHeartbeats 1000000 in
theorem crow_any (b : Int) (w : World) (h0 : 0 ≤ b) (h1 : b < 256) : Calls Tryz.prog 184 #[.int .u8 b] w fun e w' => (e = .returned (.int .u32 (crow b))) ∧ Below w.heap.size w w' := by
  have hW := fun k => w32_cit b h0 h1 k
  go_enter Tryz.func184, Tryz.ntmps184
  go_wp2_with fail
  go_loopw [3, 6] (fun c u wr => ∃ (k : Nat), k ≤ 8 ∧ u = .int .i64 k ∧ c = .int .u32 (cit k b) ∧ wr = w) (fun _ u _ => 8 - (intOf u).toNat)
  case atStart => exact ⟨0, by omega, rfl, rfl, rfl⟩
  case round =>
    obtain ⟨k, hk, rfl, rfl, rfl⟩ := hrel
    by_cases hlt : k < 8
    · have hx := hW k
      have e : cst (cit k b) = cit (k + 1) b := rfl
      have HE := Lib.hid e
      clear e hW
      obtain ⟨hx0, hx1⟩ := hx
      generalize cit k b = x at *
      go_wp2_with fail
      go_roundw
      case rel => exact ⟨k + 1, by omega, by go_num, by rw [← HE.out]; rfl, trivial⟩
      case measure => simp [intOf]; omega
    · obtain rfl : k = 8 := by omega
      go_wp2
      go_ret
      exact ⟨rfl, Below.refl _ _⟩
def ctab (k : Nat) : List Int := (List.range 256).map fun i => if i < k then crow i else 0
theorem len_ctab (k : Nat) : (ctab k).length = 256 := by simp [ctab]
theorem ctab_step (k : Nat) : (ctab k).set k (crow k) = ctab (k + 1) := by
  apply List.ext_getElem?
  intro i
  by_cases hi : i < 256
  · by_cases hik : k = i
    · subst hik
      simp [ctab, hi]
    · rw [List.getElem?_set_ne hik]
      simp only [ctab, List.getElem?_map, List.getElem?_range hi, Option.map_some]
      by_cases h2 : i < k
      · rw [if_pos h2, if_pos (by omega)]
      · rw [if_neg h2, if_neg (by omega)]
  · rw [List.getElem?_eq_none (by simp [ctab]; omega), List.getElem?_eq_none (by simp [ctab]; omega)]
theorem ctab_zero : zeros = ctab 0 := by decide +kernel
set_option maxRecDepth 100000 in
set_option maxHeartbeats 1000000 in
theorem ctable_any (w : World) : Calls Tryz.prog 147 #[] w fun e w' => (e = .returned (.agg (J .u32 (ctab 256)))) ∧ Below w.heap.size w w' := by
  go_enter Tryz.func147, Tryz.ntmps147
  have hm := Own.nil w
  go_wp2_with (first
    | (refine wpList_alloc_o hm rfl rfl zero219 ?_; intro w1 g hm1; clear hm))
  rw [ctab_zero] at hm1
  go_loopw [2] (fun u wr => ∃ k : Nat, k ≤ 256 ∧ u = .int .i64 k ∧ Own w wr [(g, J .u32 (ctab k))] []) (fun u _ => 256 - (intOf u).toNat)
  case atStart => exact ⟨0, by omega, rfl, hm1⟩
  case round =>
    obtain ⟨k, hk, rfl, hmr⟩ := hrel
    clear hm1
    by_cases hlt : k < 256
    · have CR : Hid (∀ w, Calls Tryz.prog 184 #[.int .u8 k] w fun e w' => (e = .returned (.int .u32 (crow k))) ∧ Below w.heap.size w w') := Lib.hid fun w => crow_any k w (by omega) (by omega)
      have HS := Lib.hid (ctab_step k)
      have hc : k < (J .u32 (ctab k)).size := by rw [size_J, len_ctab]; exact hlt
      generalize crow k = x at *
      go_wp2_with (first
        | (go_at_call 184; have _t := hmr; refine (CR.out _).mono ?_; rintro e w2 ⟨rfl, hb2⟩; have hm2 := hmr.call hb2; clear hmr)
        | (refine wpList_storecell_o (v := .int .u32 x) 0 hm2 rfl rfl rfl rfl rfl one72 hc rfl rfl (set_J .u32 (ctab k) k x) ?_; intro w3 hm3; simp only [List.set] at hm3; clear hm2))
      rw [HS.out] at hm3
      go_roundw
      case rel => exact ⟨k + 1, by omega, by go_num, hm3⟩
      case measure => simp [intOf]; omega
    · obtain rfl : k = 256 := by omega
      go_wp2_with (first
        | (refine wpList_load_all rfl rfl rfl (hmr.row 0 rfl) (aggT (len_ctab 256)) ?_)
        | (refine wpList_store_o 0 hmr rfl rfl rfl rfl rfl (aggT (len_ctab 256)) rfl (J_one _ _) ?_; intro w3 hm3; simp only [List.set] at hm3; clear hmr))
      refine bodyPost_ret (results_agg1 rfl rfl (hm3.row 0 rfl) (aggT (len_ctab 256))) rfl ⟨rfl, hm3.below⟩
def InS (w : World) (v : Value) (ps : List (List Int)) : Prop := ∃ ad c, v = .slice ad ps.length c ∧ ∀ i (h : i < ps.length), ∃ A u, ad = some A ∧ w.cell? (A.add i) = some u ∧ In .u8 w u ps[i]
theorem InS.below {w w' : World} {v : Value} {ps : List (List Int)} (h : InS w v ps) (hb : Below w.heap.size w w') : InS w' v ps := by
  obtain ⟨ad, c, rfl, hc⟩ := h
  refine ⟨ad, c, rfl, fun i hi => ?_⟩
  obtain ⟨A, u, h1, h2, h3⟩ := hc i hi
  exact ⟨A, u, h1, (hb.cell (block_lt_of_cell h2)).trans h2, h3.below hb⟩
def cup (c b : Int) : Int := bits .xor .u32 (crow (bits .xor .u8 (c % 256) b)) (c / 256)
def fd (c : Int) (l : List Int) : Int := l.foldl cup c
end Go.Proofs.YtkpbhdhkdonghaaGreat

namespace Go.Proofs.YtkpbhdhkdonghaaGreat
open Go Go.RowKit
def z258 : List Int := List.replicate 258 0
theorem len_z258 : z258.length = 258 := List.length_replicate ..
theorem mem_z258 {x : Int} (h : x ∈ z258) : x = 0 := List.eq_of_mem_replicate h
def Syms (l : List Int) : Prop := ∀ s ∈ l, 0 ≤ s ∧ s < 258
theorem Syms.gi {l : List Int} (h : Syms l) (k : Nat) (hk : k < l.length) : 0 ≤ gi l k ∧ gi l k < 258 := h _ (by rw [gi_eq l k hk]; exact List.getElem_mem _)
end Go.Proofs.YtkpbhdhkdonghaaGreat

namespace Go.Proofs.YtkpbhdhkdonghaaGreat
open Go Go.RowKit
set_option maxRecDepth 100000 in
theorem isnan_any (n : Int) (w : World) : Calls Tryz.prog 248 #[.int .i64 n] w fun e w' => (e = .returned (.bool false)) ∧ w' = w := by
  have q : (n != n) = false := bne_self_eq_false n
  go_enter Tryz.func248, Tryz.ntmps248
  go_wp2
  go_ret
  exact ⟨rfl, rfl⟩
def cmpI (a b : Int) : Int := if a < b then -1 else if b < a then 1 else 0
set_option maxRecDepth 100000 in
theorem cmp_any (a b : Int) (w : World) : Calls Tryz.prog 207 #[.int .i64 a, .int .i64 b] w fun e w' => (e = .returned (.int .i64 (cmpI a b))) ∧ w' = w := by
  have CN : Hid (∀ n w, Calls Tryz.prog 248 #[.int .i64 n] w fun e w' => (e = .returned (.bool false)) ∧ w' = w) := Lib.hid isnan_any
  rw [cmpI]
  by_cases h1 : a < b
  · have q1 : decide (a < b) = true := decide_eq_true h1
    rw [if_pos h1]
    go_enter Tryz.func207, Tryz.ntmps207
    go_wp2_with (first
      | (go_at_call 248; refine (CN.out _ _).mono ?_; rintro e w2 ⟨rfl, rfl⟩))
    go_ret
    exact ⟨rfl, rfl⟩
  · have q1 : decide (a < b) = false := decide_eq_false h1
    rw [if_neg h1]
    by_cases h2 : b < a
    · have q2 : decide (b < a) = true := decide_eq_true h2
      rw [if_pos h2]
      go_enter Tryz.func207, Tryz.ntmps207
      go_wp2_with (first
        | (go_at_call 248; refine (CN.out _ _).mono ?_; rintro e w2 ⟨rfl, rfl⟩))
      go_ret
      exact ⟨rfl, rfl⟩
    · have q2 : decide (b < a) = false := decide_eq_false h2
      rw [if_neg h2]
      go_enter Tryz.func207, Tryz.ntmps207
      go_wp2_with (first
        | (go_at_call 248; refine (CN.out _ _).mono ?_; rintro e w2 ⟨rfl, rfl⟩))
      go_ret
      exact ⟨rfl, rfl⟩
end Go.Proofs.YtkpbhdhkdonghaaGreat

namespace Go.Proofs.YtkpbhdhkdonghaaGreat
open Go Go.RowKit
def X (l : List Int) (t : List Value) : Array Value := (vs .u8 l ++ t).toArray
theorem size_X (l : List Int) (t : List Value) : (X l t).size = l.length + t.length := by simp [X, length_vs]
theorem X_one (l : List Int) (t : List Value) (h : ∀ v ∈ t, v.oneCell' = true) : ∀ v ∈ X l t, v.oneCell' = true := by
  intro v hv
  have hv : v ∈ vs .u8 l ++ t := by simpa [X] using hv
  rcases List.mem_append.1 hv with hv | hv
  · exact vs_one .u8 l v hv
  · exact h v hv
def EV (l : List Int) (r : Int) : Array Value := X l [.int .i64 r]
theorem size_EV {l : List Int} (r : Int) (hl : l.length = 256) : (EV l r).size = 257 := by rw [EV, size_X, hl]; rfl
theorem agg57 : AggTy Tryz.prog 268 257 := AggTy.mk' Tryz.underlying268 rfl (by kernel_rfl)
theorem aggE {l : List Int} (r : Int) (hl : l.length = 256) : AggTy Tryz.prog 268 (EV l r).size := by rw [size_EV r hl]; exact agg57
theorem EV_one (l : List Int) (r : Int) : ∀ v ∈ EV l r, v.oneCell' = true := X_one l _ (fun v hv => by rw [List.mem_singleton.1 hv]; rfl)
theorem zero57 (w : World) : (zeroValue 268).run Tryz.prog w = .ok (.agg (EV zeros 0)) w := by kernel_rfl
theorem fill_list (l : List Int) (t : List Value) (hl : l.length = 256) {places : Nat → Option (Nat × Nat)} (hp : places 0 = some (0, 256)) : Instr.fill places (X zeros t) [(0, .agg (B l))] = some (X l t) := by
  have hB : (B l).size = 256 := by rw [size_B, hl]
  have hX : (X zeros t).size = 256 + t.length := by rw [size_X, len_zeros]
  simp only [Instr.fill, hp, Value.cells, hB, hX]
  have key : ∀ (xs : List Value) (j : Nat) (pre post : List Value), pre.length = j → ∀ (mid : List Value), mid.length = xs.length →
      (xs.zipIdx j).foldl (fun (cs : Array Value) (c : Value × Nat) => cs.setIfInBounds (0 + c.2) c.1) (pre ++ mid ++ post).toArray = (pre ++ xs ++ post).toArray := by
    intro xs
    induction xs with
    | nil => intro j pre post _ mid hmid; obtain rfl := List.eq_nil_of_length_eq_zero hmid; simp
    | cons x xs ih =>
      intro j pre post hpre mid hmid
      match mid, hmid with
      | m :: mid, hmid =>
        simp only [List.zipIdx_cons, List.foldl_cons, Nat.zero_add]
        have e : (pre ++ m :: mid ++ post).toArray.setIfInBounds j x = ((pre ++ [x]) ++ mid ++ post).toArray := by
          apply Array.ext'
          simp only [List.setIfInBounds_toArray]
          rw [List.append_assoc, List.set_append_right _ _ (by omega), show j - pre.length = 0 by omega]
          simp
        have e2 := ih (j + 1) (pre ++ [x]) post (by simp [hpre]) mid (by simpa using hmid)
        simp only [Nat.zero_add] at e2
        rw [e, e2]
        simp
  rw [if_neg (by simp)]
  have e := key (vs .u8 l) 0 [] t rfl (vs .u8 zeros) (by rw [length_vs, length_vs, hl, len_zeros])
  congr 1
  rw [← Array.foldl_toList, Array.toList_zipIdx]
  simpa [X, B] using e
set_option maxRecDepth 100000 in
theorem exec_build57 {o : Oper} {a : Act} {w : World} {x : Operand} (ho : o.op = .build 268 #[(0, x)]) {l : List Int} (hx : a.eval x = .agg (B l)) (hl : l.length = 256) : (execOp a.eval o).run Tryz.prog w = .ok (.value (.agg (EV l 0))) w := by
  have hz := zero57 w
  have hb : Tryz.prog.built 268 [(0, .agg (B l))] = some (EV l 0) := by
    have hf : (Tryz.prog.fieldsOf 268).toList.mapM (fun f => (Tryz.prog.info? f.type).map fun i => (f.offset, i.size)) = some [(0, 256), (256, 1)] := by kernel_rfl
    obtain ⟨i, hi⟩ : ∃ i, Tryz.prog.info? 268 = some i := Option.isSome_iff_exists.1 (by kernel_rfl)
    have hzi : i.zero = some (.agg (EV zeros 0)) := by
      have := hz
      simp [zeroValue, typeInfo, hi] at this
      cases hzz : i.zero with
      | none => simp [hzz] at this
      | some z => simp [hzz] at this; rw [this]
    unfold Program.built
    have hu : Tryz.prog.underlying 268 = some (.struct (Tryz.prog.fieldsOf 268)) := by kernel_rfl
    rw [hi, hu]
    simp only [hzi, hf]
    exact fill_list l [.int .i64 0] hl rfl
  unfold execOp
  simp only [ho, Sem.run_bind, List.map_toArray, List.map_cons, List.map_nil, hx, run_build w 268 _ (EV l 0) hb, Result.andThen_ok, Sem.run_pure]
end Go.Proofs.YtkpbhdhkdonghaaGreat

namespace Go.Proofs.YtkpbhdhkdonghaaGreat
open Go Go.RowKit
theorem agg139 : AggTy Tryz.prog 139 258 := AggTy.mk' Tryz.underlying139 rfl (by kernel_rfl)
theorem aggN {l : List Int} (h : l.length = 258) : AggTy Tryz.prog 139 (J .u8 l).size := by rw [size_J, h]; exact agg139
def share (n : Int) : Int := if n = 0 then 0 else if 15 < n then 32769 else 32768 / 2 ^ n.toNat
theorem share_bound (n : Int) : 0 ≤ share n ∧ share n ≤ 32769 := by
  rw [share]
  split
  · omega
  · split
    · omega
    · have h1 : (0 : Int) < 2 ^ n.toNat := by exact Int.pow_pos (by decide)
      refine ⟨Int.ediv_nonneg (by decide) (by omega), ?_⟩
      have := Int.ediv_le_self (2 ^ n.toNat) (show (0 : Int) ≤ 32768 by decide)
      omega
set_option maxRecDepth 100000 in
theorem share_any (n : Int) (w : World) (h0 : 0 ≤ n) : Calls Tryz.prog 277 #[.int .u8 n] w fun e w' => (e = .returned (.int .i64 (share n))) ∧ w' = w := by
  rw [share]
  by_cases h1 : n = 0
  · subst h1
    rw [if_pos rfl]
    go_enter Tryz.func277, Tryz.ntmps277
    go_wp2
    go_ret
    exact ⟨rfl, rfl⟩
  have q1 : (n == 0) = false := by simpa using h1
  rw [if_neg h1]
  by_cases h2 : 15 < n
  · have q2 : decide (15 < n) = true := decide_eq_true h2
    rw [if_pos h2]
    go_enter Tryz.func277, Tryz.ntmps277
    go_wp2
    go_ret
    exact ⟨rfl, rfl⟩
  · have q2 : decide (15 < n) = false := decide_eq_false h2
    rw [if_neg h2]
    go_enter Tryz.func277, Tryz.ntmps277
    go_wp2
    go_ret
    exact ⟨rfl, rfl⟩
def ksum (l : List Int) (k : Nat) : Int := ((l.take k).map share).sum
theorem ksum_step (l : List Int) (k : Nat) (h : k < l.length) : ksum l (k + 1) = ksum l k + share (gi l k) := by
  rw [ksum, take_snoc_gi l k h, List.map_append, List.sum_append, ksum]; simp
theorem ksum_bound (l : List Int) : ∀ k, k ≤ l.length → 0 ≤ ksum l k ∧ ksum l k ≤ 32769 * k
  | 0, _ => by simp [ksum]
  | k + 1, h => by
    have h1 := ksum_bound l k (by omega)
    have h2 := share_bound (gi l k)
    rw [ksum_step l k h]
    push_cast
    omega
set_option maxRecDepth 100000 in
set_option maxHeartbeats 1000000 in
theorem sum_any (l : List Int) (w : World) (hl : l.length = 258) (hb : Bytes l) : Calls Tryz.prog 249 #[.agg (J .u8 l)] w fun e w' => (e = .returned (.int .i64 (ksum l 258))) ∧ Below w.heap.size w w' := by
  have HB := Lib.hid hb
  have HL := Lib.hid hl
  clear hb
  go_enter Tryz.func249, Tryz.ntmps249
  have hm := Own.nil w
  go_wp2_with (first
    | (refine wpList_box_o hm rfl rfl rfl ?_; intro w1 g hm1; clear hm)
    | (refine wpList_load_all rfl rfl rfl (hm1.row 0 rfl) (aggN hl) ?_))
  clear hl
  go_loopw [2, 6] (fun z u wr => ∃ k : Nat, k ≤ 258 ∧ u = .int .i64 k ∧ z = .int .i64 (ksum l k) ∧ Own w wr [(g, J .u8 l)] []) (fun _ u _ => 258 - (intOf u).toNat)
  case atStart => exact ⟨0, by omega, rfl, rfl, hm1⟩
  case round =>
    obtain ⟨k, hk, rfl, rfl, hmr⟩ := hrel
    clear hm1
    by_cases hlt : k < 258
    · have hg : (J .u8 l)[k]? = some (.int .u8 (gi l k)) := at_J .u8 l k (by rw [HL.out]; exact hlt)
      have hS := ksum_step l k (by rw [HL.out]; exact hlt)
      have h1 := ksum_bound l k (by rw [HL.out]; omega)
      have h2 := share_bound (gi l k)
      have CS : Hid (∀ w, Calls Tryz.prog 277 #[.int .u8 (gi l k)] w fun e w' => (e = .returned (.int .i64 (share (gi l k)))) ∧ w' = w) := Lib.hid fun w => share_any _ w (HB.out _ (by rw [gi_eq l k (by rw [HL.out]; exact hlt)]; exact List.getElem_mem _)).1
      have HS := Lib.hid hS
      have hw : IntKind.i64.wrap (ksum l k + share (gi l k)) = ksum l k + share (gi l k) := IntWalk.i64_in _ (by omega)
      clear hS h1 h2
      generalize gi l k = x at *
      generalize share x = y at *
      generalize ksum l k = z at *
      go_wp2_with (first
        | (refine wpList_run rfl (exec_index rfl rfl rfl Tryz.underlying139 one5 hlt hg) ?_)
        | (go_at_call 277; have _t := hmr; refine (CS.out _).mono ?_; rintro e w2 ⟨rfl, rfl⟩))
      go_roundw
      case rel => exact ⟨k + 1, by omega, by go_num, by rw [HS.out], hmr⟩
      case measure => simp [intOf]; omega
    · obtain rfl : k = 258 := by omega
      go_wp2
      go_ret
      exact ⟨rfl, hmr.below⟩
set_option maxRecDepth 100000 in
theorem complete_any (l : List Int) (w : World) (hl : l.length = 258) (hb : Bytes l) : Calls Tryz.prog 213 #[.agg (J .u8 l)] w fun e w' => (e = .returned (.bool (ksum l 258 == 32768))) ∧ Below w.heap.size w w' := by
  have CS := Lib.hid (fun w => sum_any l w hl hb)
  generalize ksum l 258 = z at *
  go_enter Tryz.func213, Tryz.ntmps213
  have hm := Own.nil w
  go_wp2_with (first
    | (refine wpList_box_o hm rfl rfl rfl ?_; intro w1 g hm1; clear hm)
    | (refine wpList_load_all rfl rfl rfl (hm1.row 0 rfl) (aggN hl) ?_)
    | (go_at_call 249; have _t := hm1; refine (CS.out _).mono ?_; rintro e w2 ⟨rfl, hb2⟩; have hm2 := hm1.call hb2; clear hm1))
  go_ret
  exact ⟨rfl, hm2.below⟩
def ktab (l : List Int) : Bool := (ksum l 258 == 32768) && decide (0 < gi l 257)
set_option maxRecDepth 100000 in
theorem table_any (l : List Int) (w : World) (hl : l.length = 258) (hb : Bytes l) : Calls Tryz.prog 168 #[.agg (J .u8 l)] w fun e w' => (e = .returned (.bool (ktab l))) ∧ Below w.heap.size w w' := by
  have CS := Lib.hid (fun w => complete_any l w hl hb)
  have hg : (J .u8 l)[257]? = some (.int .u8 (gi l 257)) := at_J .u8 l 257 (by omega)
  rw [ktab]
  cases hz : (ksum l 258 == 32768) with
  | false =>
    rw [hz] at CS
    clear hz
    go_enter Tryz.func168, Tryz.ntmps168
    have hm := Own.nil w
    go_wp2_with (first
      | (refine wpList_box_o hm rfl rfl rfl ?_; intro w1 g hm1; clear hm)
      | (refine wpList_load_all rfl rfl rfl (hm1.row 0 rfl) (aggN hl) ?_)
      | (go_at_call 213; have _t := hm1; refine (CS.out _).mono ?_; rintro e w2 ⟨rfl, hb2⟩; have hm2 := hm1.call hb2; clear hm1))
    go_ret
    exact ⟨rfl, hm2.below⟩
  | true =>
    rw [hz] at CS
    clear hz
    generalize gi l 257 = x at *
    go_enter Tryz.func168, Tryz.ntmps168
    have hm := Own.nil w
    go_wp2_with (first
      | (refine wpList_box_o hm rfl rfl rfl ?_; intro w1 g hm1; clear hm)
      | (refine wpList_load_all rfl rfl rfl (hm1.row 0 rfl) (aggN hl) ?_)
      | (go_at_call 213; have _t := hm1; refine (CS.out _).mono ?_; rintro e w2 ⟨rfl, hb2⟩; have hm2 := hm1.call hb2; clear hm1)
      | (refine wpList_run rfl (exec_loadcell' (off := 257) rfl rfl (hm2.row 0 rfl) one5 hg) ?_))
    go_ret
    exact ⟨by rw [Bool.true_and]; rfl, hm2.below⟩
theorem agg296 : AggTy Tryz.prog 296 16 := AggTy.mk' Tryz.underlying296 rfl (by kernel_rfl)
def z16 : List Int := List.replicate 16 0
theorem zero296 (w : World) : (zeroValue 296).run Tryz.prog w = .ok (.agg (J .i64 z16)) w := by kernel_rfl
theorem aggC {l : List Int} (h : l.length = 16) : AggTy Tryz.prog 296 (J .i64 l).size := by rw [size_J, h]; exact agg296
def cnt1 (c : List Int) (n : Int) : List Int := if n < 16 then c.set n.toNat (gi c n.toNat + 1) else c
def kcnt (l : List Int) : List Int := l.foldl cnt1 z16
theorem kcnt_step (l : List Int) (k : Nat) (h : k < l.length) : kcnt (l.take (k + 1)) = cnt1 (kcnt (l.take k)) (gi l k) := by
  rw [take_snoc_gi l k h, kcnt, List.foldl_append]; rfl
theorem cnt1_ok {c : List Int} {n : Int} {m : Int} (h0 : 0 ≤ n) (hl : c.length = 16) (hb : ∀ x ∈ c, 0 ≤ x ∧ x ≤ m) : (cnt1 c n).length = 16 ∧ ∀ x ∈ cnt1 c n, 0 ≤ x ∧ x ≤ m + 1 := by
  rw [cnt1]
  split
  · refine ⟨by rw [List.length_set, hl], fun x hx => ?_⟩
    rcases List.mem_or_eq_of_mem_set hx with h | rfl
    · have := hb x h; omega
    · have hi : n.toNat < c.length := by omega
      have := hb (gi c n.toNat) (by rw [gi_eq c _ hi]; exact List.getElem_mem hi)
      omega
  · exact ⟨hl, fun x hx => by have := hb x hx; omega⟩
theorem kcnt_ok (l : List Int) (hb : Bytes l) : ∀ k, k ≤ l.length → (kcnt (l.take k)).length = 16 ∧ ∀ x ∈ kcnt (l.take k), 0 ≤ x ∧ x ≤ k
  | 0, _ => by
    refine ⟨rfl, fun x hx => ?_⟩
    have : x = 0 := by simp [kcnt, z16] at hx; exact hx
    omega
  | k + 1, h => by
    obtain ⟨h1, h2⟩ := kcnt_ok l hb k (by omega)
    rw [kcnt_step l k (by omega)]
    have hx := (hb (gi l k) (by rw [gi_eq l k (by omega)]; exact List.getElem_mem _)).1
    have := cnt1_ok hx h1 h2
    push_cast
    exact this
set_option maxRecDepth 100000 in
set_option maxHeartbeats 1000000 in
theorem counts_any (l : List Int) (w : World) (hl : l.length = 258) (hb : Bytes l) : Calls Tryz.prog 214 #[.agg (J .u8 l)] w fun e w' => (e = .returned (.agg (J .i64 (kcnt l)))) ∧ Below w.heap.size w w' := by
  have HK := Lib.hid (kcnt_ok l hb)
  have HB := Lib.hid hb
  have HL := Lib.hid hl
  have HT : Hid (l.take 258 = l) := Lib.hid (List.take_of_length_le (by omega))
  clear hb
  go_enter Tryz.func214, Tryz.ntmps214
  have hm := Own.nil w
  go_wp2_with (first
    | (refine wpList_box_o hm rfl rfl rfl ?_; intro w1 g hm1; clear hm)
    | (refine wpList_alloc_o hm1 rfl rfl zero296 ?_; intro w2 g2 hm2; clear hm1)
    | (refine wpList_load_all rfl rfl rfl (hm2.row 1 rfl) (aggN hl) ?_))
  clear hl
  go_loopw [6] (fun u wr => ∃ k : Nat, k ≤ 258 ∧ u = .int .i64 k ∧ Own w wr [(g2, J .i64 (kcnt (l.take k))), (g, J .u8 l)] []) (fun u _ => 258 - (intOf u).toNat)
  case atStart => exact ⟨0, by omega, rfl, hm2⟩
  case round =>
    obtain ⟨k, hk, rfl, hmr⟩ := hrel
    clear hm2
    by_cases hlt : k < 258
    · have hkl : k < l.length := by rw [HL.out]; exact hlt
      have hg : (J .u8 l)[k]? = some (.int .u8 (gi l k)) := at_J .u8 l k hkl
      have HS := Lib.hid (kcnt_step l k hkl)
      obtain ⟨hc1, hc2⟩ := HK.out k (Nat.le_of_lt hkl)
      obtain ⟨hx, hx2⟩ := HB.out (gi l k) (by rw [gi_eq l k hkl]; exact List.getElem_mem _)
      clear hkl
      generalize gi l k = x at *
      generalize kcnt (l.take k) = c at *
      by_cases h16 : x < 16
      · obtain ⟨n, rfl⟩ := Int.eq_ofNat_of_zero_le hx
        have hn : n < 16 := by omega
        have q1 : decide ((n : Int) < 16) = true := decide_eq_true h16
        have hci : (J .i64 c)[n]? = some (.int .i64 (gi c n)) := at_J .i64 c n (by omega)
        have hbd := hc2 (gi c n) (by rw [gi_eq c n (by omega)]; exact List.getElem_mem _)
        have hw : IntKind.i64.wrap (gi c n + 1) = gi c n + 1 := IntWalk.i64_in _ (by omega)
        have hsz : n < (J .i64 c).size := by rw [size_J, hc1]; exact hn
        have HC : Hid (cnt1 c n = c.set n (gi c n + 1)) := Lib.hid (by rw [cnt1, if_pos h16]; rfl)
        have hst := set_J .i64 c n (gi c n + 1)
        clear hbd hc1 hc2
        generalize gi c n = y at *
        go_wp2_with (first
          | (refine wpList_run rfl (exec_index rfl rfl rfl Tryz.underlying139 one5 hlt hg) ?_)
          | (refine wpList_run rfl (exec_loadcell' (off := n) rfl rfl (hmr.row 0 rfl) one3 hci) ?_)
          | (refine wpList_storecell_o (off := n) (v := .int .i64 (y + 1)) 0 hmr rfl rfl rfl rfl rfl one3 hsz rfl rfl hst ?_; intro w3 hm3; simp only [List.set] at hm3; clear hmr))
        rw [← HC.out, ← HS.out] at hm3
        go_roundw
        case rel => exact ⟨k + 1, by omega, by go_num, hm3⟩
        case measure => simp [intOf]; omega
      · have q1 : decide (x < 16) = false := decide_eq_false h16
        have hwx : IntKind.i64.wrap x = x := IntWalk.i64_in _ (by omega)
        have HC : Hid (cnt1 c x = c) := Lib.hid (by rw [cnt1, if_neg h16])
        clear hc1 hc2
        go_wp2_with (first
          | (refine wpList_run rfl (exec_index rfl rfl rfl Tryz.underlying139 one5 hlt hg) ?_))
        rw [← HC.out, ← HS.out] at hmr
        go_roundw
        case rel => exact ⟨k + 1, by omega, by go_num, hmr⟩
        case measure => simp [intOf]; omega
    · obtain rfl : k = 258 := by omega
      rw [HT.out] at hmr
      have hc := (HK.out 258 (by rw [HL.out]; exact Nat.le_refl _)).1
      rw [HT.out] at hc
      go_wp2_with (first
        | (refine wpList_load_all rfl rfl rfl (hmr.row 0 rfl) (aggC hc) ?_)
        | (refine wpList_store_o 0 hmr rfl rfl rfl rfl rfl (aggC hc) rfl (J_one _ _) ?_; intro w3 hm3; simp only [List.set] at hm3; clear hmr))
      refine bodyPost_ret (results_agg1 rfl rfl (hm3.row 0 rfl) (aggC hc)) rfl ⟨rfl, hm3.below⟩
end Go.Proofs.YtkpbhdhkdonghaaGreat
