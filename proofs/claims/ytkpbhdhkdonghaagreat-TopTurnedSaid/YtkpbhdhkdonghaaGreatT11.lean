/-
  Part 11 of the proof.
-/
import Derived.Lib.MakeNoZero
import Derived.Deep.CutRange
import Derived.Lib.SliceRun
import Derived.Laws.CopyRow
import Derived.Test.YtkpbhdhkdonghaaGreatT04
import Derived.Test.YtkpbhdhkdonghaaGreatT07
import Derived.Test.YtkpbhdhkdonghaaGreatT08
import Derived.Test.YtkpbhdhkdonghaaGreatT09
import Derived.Test.YtkpbhdhkdonghaaGreatT10
set_option linter.all false
namespace Go.Proofs.YtkpbhdhkdonghaaGreat
open Go Go.RowKit
theorem mask_u64 (q : Nat) (hq : q < 2 ^ 32) : bits .and .u64 (q : Int) 4294967295 = (q : Int) := by
  have h1 : (BitVec.ofInt 64 (q : Int)).toNat = q := by
    rw [BitVec.ofInt_natCast, BitVec.toNat_ofNat]; exact Nat.mod_eq_of_lt (by omega)
  have h2 : (BitVec.ofInt 64 (4294967295 : Int)).toNat = 4294967295 := rfl
  show IntKind.u64.wrap ((BitVec.ofInt 64 (q : Int) &&& BitVec.ofInt 64 (4294967295 : Int)).toNat : Int) = _
  have h3 : q &&& 4294967295 = q := by
    have := Nat.and_two_pow_sub_one_eq_mod q 32
    rw [show (4294967295 : Nat) = 2 ^ 32 - 1 from rfl, this, Nat.mod_eq_of_lt hq]
  rw [BitVec.toNat_and, h1, h2, h3]
  exact IntWalk.u64_in _ (by omega)
set_option maxRecDepth 100000 in
set_option maxHeartbeats 1000000 in
theorem mul64_one (k : Nat) (hk : k < 2 ^ 32) (w : World) : Calls Tryz.prog 291 #[.int .u64 1, .int .u64 k] w fun e w' => e = .returned (.tuple #[.int .u64 0, .int .u64 k]) ∧ Below w.heap.size w w' := by
  have m1 : bits .and .u64 1 4294967295 = 1 := mask_u64 1 (by omega)
  have m2 := mask_u64 k hk
  have m3 : bits .and .u64 0 4294967295 = 0 := mask_u64 0 (by omega)
  have v1 : IntKind.u64.wrap (k : Int) = k := IntWalk.u64_in _ (by omega)
  have v0 : IntKind.u64.wrap (0 : Int) = 0 := IntWalk.u64_in _ (by omega)
  have d1 : (k : Int) / 4294967296 = 0 := by omega
  have hkk : (k : Int) < 4294967296 := by omega
  go_enter Tryz.func291, Tryz.ntmps291
  have hm := Own.nil w
  go_wp2_with fail
  go_ret2
  exact ⟨rfl, hm.below⟩
set_option maxRecDepth 100000 in
set_option maxHeartbeats 1000000 in
theorem mul_one_ (k : Nat) (hk : k < 2 ^ 32) (w : World) : Calls Tryz.prog 278 #[.int .u64 1, .int .u64 k] w fun e w' => e = .returned (.tuple #[.int .u64 0, .int .u64 k]) ∧ Below w.heap.size w w' := by
  go_enter Tryz.func278, Tryz.ntmps278
  have hm := Own.nil w
  go_wp2_with (first
    | (go_at_call 291; have _t := hm; refine (mul64_one k hk _).mono ?_; rintro e w1 ⟨rfl, hb1⟩; have hm1 := hm.call hb1; clear hm))
  go_ret2
  exact ⟨rfl, hm1.below⟩
theorem exec_copy {P : Program} {w : World} {o : Oper} {a : Act} {x y : Operand} {t t' elem : TypeId}
    (ho : o.op = .call { callee := .builtin .copy, args := #[x, y], argTypes := #[t, t'] }) (hu : P.underlying t = some (.slice elem)) (hs : (P.info? elem).map (·.size) = some 1)
    {g off dLen dCap : Nat} (hx : a.eval x = .slice (some ⟨g, off, none⟩) dLen dCap) {A : Addr} {sLen sCap : Nat} (hy : a.eval y = .slice (some A) sLen sCap)
    {cs : Array Value} {xs : List Value} (hg : RowIs w g cs) (hn : xs.length = Nat.min sLen dLen) (hc : ∀ j v, xs[j]? = some v → w.cell? (A.add j) = some v) (hfit : off + xs.length ≤ cs.size) (h1 : ∀ v ∈ xs, v.oneCell' = true) :
    (execOp a.eval o).run P w = .ok (.value (.int .i64 xs.length)) (w.setRow g (splice cs off xs.toArray)) := by
  obtain ⟨tt, hg⟩ := hg
  have hrun := run_copy_row P w t t' o.type elem g off dLen dCap A sLen sCap cs tt xs hu hs hg hn hc hfit h1
  have e : (cs.toList.take off ++ xs ++ cs.toList.drop (off + xs.length)).toArray = splice cs off xs.toArray := by simp [splice]
  rw [e] at hrun
  unfold execOp
  simp only [ho, resolve, invoke, builtin, Sem.run_bind, Sem.run_pure, Result.andThen_ok, List.map_toArray, List.map_cons, List.map_nil, hx, hy, hrun, goInt]
theorem take_splice {cs : Array Value} {bp m : Nat} {v : Value} (h : cs.toList.take bp = List.replicate bp v) : (splice cs bp (List.replicate m v).toArray).toList.take (bp + m) = List.replicate (bp + m) v := by
  have h1 : (splice cs bp (List.replicate m v).toArray).toList = List.replicate (bp + m) v ++ cs.toList.drop (bp + m) := by
    simp only [splice, h, List.replicate_append_replicate, List.size_toArray, List.length_replicate]
  rw [h1, List.take_left' (by simp)]
theorem size_splice {cs : Array Value} {bp m : Nat} {v : Value} (h : bp + m ≤ cs.size) : (splice cs bp (List.replicate m v).toArray).size = cs.size := by
  simp [splice]; omega
theorem get_take {cs : Array Value} {bp j : Nat} {v : Value} (h : cs.toList.take bp = List.replicate bp v) (hj : j < bp) : cs[j]? = some v := by
  have h2 : (cs.toList.take bp)[j]? = some v := by rw [h]; simp [hj]
  rw [List.getElem?_take, if_pos hj, Array.getElem?_toList] at h2
  exact h2
def BytesPost (w : World) (l : List Int) (x : Ending) (w' : World) : Prop := (∃ g cells, x = .returned (.slice (some ⟨g, 0, none⟩) l.length l.length) ∧ RowIs w' g cells ∧ w.heap.size ≤ g ∧ cells.toList.take l.length = vs .u8 l) ∧ Below w.heap.size w w'
set_option maxRecDepth 100000 in
set_option maxHeartbeats 1000000 in
theorem repeat_none (A : Addr) (cp : Nat) (w : World) : Calls Tryz.prog 251 #[.slice (some A) 1 cp, .int .i64 0] w (BytesPost w []) := by
  go_enter Tryz.func251, Tryz.ntmps251
  have hm := Own.nil w
  go_wp2_with fail
  go_ret
  have hm1 := hm.alloc #[] 5
  exact ⟨⟨_, _, rfl, hm1.row 0 rfl, Nat.le_refl _, rfl⟩, hm1.below⟩
theorem exec_mnz {o : Oper} {a : Act} {w : World} {x : Operand} {ts : Array TypeId} (ho : o.op = .call { callee := .value (.func 279), args := #[x], argTypes := ts }) {n : Nat} (hx : a.eval x = .int .i64 n) (hn : n ≤ 281474976710656) :
    ∃ cs : Array Value, (execOp a.eval o).run Tryz.prog w = .ok (.value (.slice (some ⟨w.heap.size, 0, none⟩) n cs.size)) (w.drew.drew.alloc (.cells cs 5)) ∧ n ≤ cs.size := by
  obtain ⟨cs, hr, h1, _⟩ := Lib.run_makeNoZero (P := Tryz.prog) w #[3] 22 5 Tryz.underlying22 n hn
  refine ⟨cs, ?_, h1⟩
  have hf : a.eval (Operand.func 279) = .func (.func 279) #[] #[] := rfl
  unfold execOp
  simp only [ho, resolve, invoke, Sem.run_bind, List.map_toArray, List.map_cons, List.map_nil, hx, hf]
  simp [go_sem, run_callFunc_extern Tryz.func279 (by kernel_rfl) (by kernel_rfl) (by kernel_rfl) (e := Extern.BytealgMakeNoZero.makeNoZero #[3] #[22]) (by kernel_rfl), hr]
theorem run_sub3 {P : Program} {w : World} {t e : TypeId} {i : TypeInfo} {z : Value} {bytes : Nat} (he : ElTy P t e i z bytes) {ad : Option Addr} {n c h : Nat} {q1 q2 : IntKind} (h2 : h ≤ c) :
    (Instr.sliceAt t (.slice ad n c) none (some (.int q1 h)) (some (.int q2 h))).run P w = .ok (.slice (subAt ad h 0) h h) w := by
  have hh0 : (0 : Int) ≤ h := by omega
  have hhc : (h : Int) ≤ c := by omega
  unfold Instr.sliceAt
  rw [Sem.run_bind, run_underlying he.under]
  simp only [Result.andThen_ok]
  unfold Instr.slice
  rw [Sem.run_bind, run_underlying he.under]
  simp only [Result.andThen_ok]
  simp [Instr.sliceBounds, Instr.sliceBound, asIntOf, sizeOf, typeInfo, he.info, subAt, h2, Result.andThen]
theorem exec_sub3 {P : Program} {w : World} {o : Oper} {a : Act} {t e : TypeId} {i : TypeInfo} {z : Value} {bytes : Nat} {x y u : Operand} (ho : o.op = .slice t x none (some y) (some u)) (he : ElTy P t e i z bytes) {ad : Option Addr} {n c : Nat} (hx : a.eval x = .slice ad n c) {h : Nat} (hy : a.eval y = .int .i64 h) (hu : a.eval u = .int .i64 h) (h2 : h ≤ c) :
    (execOp a.eval o).run P w = .ok (.value (.slice (subAt ad h 0) h h)) w := by
  unfold execOp
  simp only [ho, hx, hy, hu, Sem.run_bind, Option.map_none, Option.map_some, run_sub3 he h2, Result.andThen_ok, Sem.run_pure]
theorem subAt_zero (g h : Nat) : subAt (some ⟨g, 0, none⟩) h 0 = some ⟨g, 0, none⟩ := by
  unfold subAt
  split
  · rfl
  · simp [Addr.add_lit]
theorem subAt_mid (g h i : Nat) (hi : i < h) : subAt (some ⟨g, 0, none⟩) h i = some ⟨g, i, none⟩ := by
  unfold subAt
  rw [if_neg (by omega)]
  simp [Addr.add_lit]
theorem cell_row {w : World} {g : Nat} {cs : Array Value} (h : RowIs w g cs) (k : Nat) {v : Value} (e : cs[k]? = some v) : w.cell? ((⟨g, 0, none⟩ : Addr).add k) = some v := by
  rw [Addr.add_lit, Nat.zero_add, h.cell, e]
theorem ord_runl {P : Program} {ops : Array Oper} {Q : Exit → Act → World → Prop} {i : Nat} {r : List (Nat × Bool)} {S : World → Prop} {a : Act} {w w' : World} {o : Oper} {v : Value} (ho : ops.toList[i]? = some o) (hw : Region.wanted o (yielded ops a.tmps) = true)
    (hrun : (execOp a.eval o).run P w = .ok (.value v) w') (hS : S w') (h : wpOrd P ops Q r S (a.put o.dst v) w') : wpOrd P ops Q ((i, false) :: r) S a w :=
  ord_run (by rw [← Array.getElem?_toList]; exact ho) hw hrun hS h
theorem wpList_val' {P : Program} {ops : Array Oper} {rest : List Oper} {o : Oper} {a : Act} {w : World} {Q : Exit → Act → World → Prop} {v : Value} (hg : Region.wanted o (yielded ops a.tmps) = true)
    (hrun : (execOp a.eval o).run P w = .ok (.value v) w) (h : wpList P ops Q rest (a.put o.dst v) w) : wpList P ops Q (o :: rest) a w := wpList_run hg hrun h
theorem wpList_mnz {ops : Array Oper} {rest : List Oper} {o : Oper} {a : Act} {w w0 : World} {Q : Exit → Act → World → Prop} {rs : List (Nat × Array Value)} {ss : List Sl} (hm : Own w0 w rs ss) (hg : Region.wanted o (yielded ops a.tmps) = true) {x : Operand} {ts : Array TypeId} (ho : o.op = .call { callee := .value (.func 279), args := #[x], argTypes := ts }) {n : Nat} (hx : a.eval x = .int .i64 n) (hn : n ≤ 281474976710656)
    (h : ∀ w' g cs, n ≤ cs.size → Own w0 w' ((g, cs) :: rs) ss → wpList Tryz.prog ops Q rest (a.put o.dst (.slice (some ⟨g, 0, none⟩) n cs.size)) w') : wpList Tryz.prog ops Q (o :: rest) a w := by
  obtain ⟨cs, hr, hN⟩ := exec_mnz ho hx hn
  exact wpList_run hg hr (h _ _ cs hN ((hm.call ((Below.refl w.heap.size w).drew.drew)).alloc cs 5))
theorem list_rep {α : Type} {n j : Nat} {v u : α} (h : (List.replicate n v)[j]? = some u) : u = v ∧ j < n := by
  obtain ⟨h1, h2⟩ := List.getElem?_eq_some_iff.1 h
  rw [List.length_replicate] at h1
  exact ⟨by rw [← h2]; simp, h1⟩
set_option maxRecDepth 100000 in
set_option maxHeartbeats 4000000 in
theorem repeat_small (c : Int) (A : Addr) (cp k : Nat) (w : World) (hk0 : 0 < k) (hk : k ≤ 65536) (hA : w.cell? A = some (.int .u8 c)) (hs : ¬ 8192 < k) : Calls Tryz.prog 251 #[.slice (some A) 1 cp, .int .i64 k] w (BytesPost w (List.replicate k c)) := by
  have n1 : ((k : Int) == 0) = false := by simp; omega
  have n2 : ¬ (k : Int) = 0 := by omega
  have n3 : ¬ (k : Int) < 0 := by omega
  have v1 : IntKind.u64.wrap (k : Int) = k := IntWalk.u64_in _ (by omega)
  have v2 : IntKind.u64.wrap (1 : Int) = 1 := IntWalk.u64_in _ (by omega)
  have v3 : IntKind.i64.wrap (k : Int) = k := IntWalk.i64_in _ (by omega)
  have n4 : decide ((9223372036854775807 : Int) < k) = false := decide_eq_false (by omega)
  have b1 : ¬ (8192 : Int) < k := by omega
  have b2 : decide ((8192 : Int) < k) = false := decide_eq_false b1
  clear hs
  have HA := Lib.hid hA
  clear hA
  obtain ⟨i5, hE⟩ := el24
  have HE := Lib.hid hE
  clear hE
  go_enter Tryz.func251, Tryz.ntmps251
  have hm := Own.nil w
  go_upto_region 16 with (first
    | (go_at_call 278; have _t := hm; refine (mul_one_ k (by omega) _).mono ?_; rintro e w1 ⟨rfl, hb1⟩; have hm1 := hm.call hb1; clear hm))
  apply wp_region_lit
  refine wpList_val' rfl (by go_simp; rfl) ?_
  simp only [Act.put, List.setIfInBounds_toArray, List.set_cons_zero, List.set_cons_succ]
  refine wpList_mnz hm1 rfl rfl (n := k) rfl (by omega) ?_
  intro w2 g cs hN hm2
  clear hm1
  try simp only [Act.put, List.setIfInBounds_toArray, List.set_cons_zero, List.set_cons_succ]
  refine wpList_val' rfl (by go_simp; rfl) ?_
  simp only [Act.put, List.setIfInBounds_toArray, List.set_cons_zero, List.set_cons_succ]
  refine wpList_val' rfl (by go_simp; rfl) ?_
  simp only [Act.put, List.setIfInBounds_toArray, List.set_cons_zero, List.set_cons_succ]
  refine wpList_run rfl (exec_sub3 rfl HE.out rfl rfl rfl hN) ?_
  rw [subAt_zero]
  simp only [Act.put, List.setIfInBounds_toArray, List.set_cons_zero, List.set_cons_succ]
  refine wpList_val' rfl (by go_simp; rfl) ?_
  simp only [Act.put, List.setIfInBounds_toArray, List.set_cons_zero, List.set_cons_succ]
  refine wpList_nil ?_
  go_simp
  have hcp : ∀ (cells : Array Value) (W : World), Own w W [(g, cells)] [] → ∀ j u, [Value.int .u8 c][j]? = some u → W.cell? (A.add j) = some u := by
    intro cells W hW j u hj
    match j with
    | 0 =>
      simp at hj
      subst hj
      rw [Addr.add_zero']
      exact (hW.below.cell (block_lt_of_cell HA.out)).trans HA.out
    | j + 1 => simp at hj
  go_wp2_with (first
    | (refine wpList_run rfl (exec_copy (xs := [.int .u8 c]) rfl Tryz.underlying22 sz5 rfl rfl (hm2.row 0 rfl) (by simp [Nat.min_def]; omega) (hcp cs _ hm2) (by simp only [List.length_cons, List.length_nil]; omega) (one_list _ rfl)) ?_; have hm3 := hm2.setRow 0 (splice cs 0 [Value.int .u8 c].toArray) rfl; simp only [List.set] at hm3; clear hm2))
  have hsz := size_splice (cs := cs) (bp := 0) (m := 1) (v := .int .u8 c) (by omega)
  have htk := take_splice (cs := cs) (bp := 0) (m := 1) (v := .int .u8 c) rfl
  go_loopw [10] (fun u wr => ∃ (bp : Nat) (cells : Array Value), 1 ≤ bp ∧ bp ≤ k ∧ u = .int .i64 bp ∧ k ≤ cells.size ∧ Hid (cells.toList.take bp = List.replicate bp (.int .u8 c)) ∧ Own w wr [(g, cells)] []) (fun u _ => k - (intOf u).toNat)
  case atStart => exact ⟨1, _, by omega, by omega, rfl, by rw [hsz]; exact hN, htk, hm3⟩
  case round =>
    obtain ⟨bp, cells, h1, hbk, rfl, hN2, HT, hmr⟩ := hrel
    clear hm3 hsz htk
    by_cases hlt : bp < k
    · have q1 : ¬ (k : Int) < bp := by omega
      go_wp2_with fail
      obtain ⟨m, hmm⟩ : ∃ m, m = Nat.min bp (k - bp) := ⟨_, rfl⟩
      have hm0 : 1 ≤ m ∧ m ≤ bp ∧ m ≤ k - bp := by rw [hmm]; simp only [Nat.min_def]; split <;> omega
      have HMM := Lib.hid hmm
      clear hmm
      have hwm : IntKind.i64.wrap ((bp : Int) + (m : Int)) = (bp : Int) + m := IntWalk.i64_in _ (by omega)
      have hS8 : Below w.heap.size w { wr with drawn := wr.drawn + 1 } := (hmr.drawn (wr.drawn + 1)).below
      refine wp_region_ord [(0, true), (1, true), (2, true), (3, true), (4, true), (5, true), (6, true), (7, false), (8, true), (9, true)] (fun W => Below w.heap.size w W) rfl (by kernel_rfl) rfl (by kernel_rfl) (fun _ _ d _ _ h => by cases d <;> exact h) hS8 ?_
      have hn := hmr.drawn (wr.drawn + 1)
      clear hS8
      generalize ({ wr with drawn := wr.drawn + 1 } : World) = wn at hn ⊢
      clear hmr
      refine ord_readl rfl rfl (fun W hW => by go_simp; rfl) ?_
      simp only [Act.put, List.setIfInBounds_toArray, List.set_cons_zero, List.set_cons_succ]
      refine ord_readl rfl rfl (fun W hW => by go_simp; rfl) ?_
      simp only [Act.put, List.setIfInBounds_toArray, List.set_cons_zero, List.set_cons_succ]
      refine ord_readl rfl rfl (fun W hW => by go_simp; rfl) ?_
      simp only [Act.put, List.setIfInBounds_toArray, List.set_cons_zero, List.set_cons_succ]
      refine ord_readl rfl rfl (fun W hW => exec_sub rfl HE.out rfl (.inr ⟨_, rfl⟩) (.inl ⟨rfl, rfl⟩) hbk (Nat.le_refl _)) ?_
      rw [subAt_mid g k bp hlt]
      simp only [Act.put, List.setIfInBounds_toArray, List.set_cons_zero, List.set_cons_succ]
      refine ord_readl rfl rfl (fun W hW => by go_simp; rfl) ?_
      simp only [Act.put, List.setIfInBounds_toArray, List.set_cons_zero, List.set_cons_succ]
      refine ord_readl rfl rfl (fun W hW => by go_simp; rfl) ?_
      simp only [Act.put, List.setIfInBounds_toArray, List.set_cons_zero, List.set_cons_succ]
      refine ord_readl rfl rfl (fun W hW => exec_sub (l := 0) (h := bp) rfl HE.out rfl (.inl ⟨rfl, rfl⟩) (.inr ⟨_, rfl⟩) (Nat.zero_le _) (by omega)) ?_
      rw [subAt_zero]
      simp only [Act.put, List.setIfInBounds_toArray, List.set_cons_zero, List.set_cons_succ]
      have hm4 := hn.setRow 0 (splice cells bp (List.replicate m (Value.int .u8 c)).toArray) rfl
      simp only [List.set] at hm4
      refine ord_runl rfl rfl (exec_copy (xs := List.replicate m (.int .u8 c)) rfl Tryz.underlying22 sz5 rfl rfl (hn.row 0 rfl) (by rw [List.length_replicate, HMM.out]; try rfl) (fun j u hj => by obtain ⟨rfl, hjm⟩ := list_rep hj; exact cell_row (hn.row 0 rfl) j (get_take HT.out (by omega))) (by rw [List.length_replicate]; omega) (fun u hu => by rw [List.eq_of_mem_replicate hu]; rfl)) hm4.below ?_
      rw [List.length_replicate]
      simp only [Act.put, List.setIfInBounds_toArray, List.set_cons_zero, List.set_cons_succ]
      refine ord_readl rfl rfl (fun W hW => by go_simp; rfl) ?_
      simp only [Act.put, List.setIfInBounds_toArray, List.set_cons_zero, List.set_cons_succ]
      refine ord_readl rfl rfl (fun W hW => by go_simp; rfl) ?_
      simp only [Act.put, List.setIfInBounds_toArray, List.set_cons_zero, List.set_cons_succ]
      refine ord_nil ?_
      have hts := take_splice (m := m) HT.out
      have hss := size_splice (cs := cells) (bp := bp) (m := m) (v := .int .u8 c) (by omega)
      clear hn HMM
      go_simp
      go_wp2
      go_roundw
      case rel => exact ⟨bp + m, _, by omega, by omega, by go_num, by rw [hss]; exact hN2, hts, hm4⟩
      case measure => simp [intOf]; omega
    · obtain rfl : k = bp := by omega
      go_wp2_with fail
      go_ret
      exact ⟨⟨g, cells, by rw [List.length_replicate]; rfl, hmr.row 0 rfl, hmr.mem.own _ (List.mem_cons_self ..), by rw [List.length_replicate, HT.out]; simp [vs]⟩, hmr.below⟩
set_option maxRecDepth 100000 in
set_option maxHeartbeats 4000000 in
theorem repeat_big (c : Int) (A : Addr) (cp k : Nat) (w : World) (hk0 : 0 < k) (hk : k ≤ 65536) (hA : w.cell? A = some (.int .u8 c)) (hs : 8192 < k) : Calls Tryz.prog 251 #[.slice (some A) 1 cp, .int .i64 k] w (BytesPost w (List.replicate k c)) := by
  have n1 : ((k : Int) == 0) = false := by simp; omega
  have n2 : ¬ (k : Int) = 0 := by omega
  have n3 : ¬ (k : Int) < 0 := by omega
  have v1 : IntKind.u64.wrap (k : Int) = k := IntWalk.u64_in _ (by omega)
  have v2 : IntKind.u64.wrap (1 : Int) = 1 := IntWalk.u64_in _ (by omega)
  have v3 : IntKind.i64.wrap (k : Int) = k := IntWalk.i64_in _ (by omega)
  have n4 : decide ((9223372036854775807 : Int) < k) = false := decide_eq_false (by omega)
  have b1 : (8192 : Int) < k := by omega
  have b2 : decide ((8192 : Int) < k) = true := decide_eq_true b1
  have HA := Lib.hid hA
  clear hA
  obtain ⟨i5, hE⟩ := el24
  have HE := Lib.hid hE
  clear hE
  go_enter Tryz.func251, Tryz.ntmps251
  have hm := Own.nil w
  go_upto_region 16 with (first
    | (go_at_call 278; have _t := hm; refine (mul_one_ k (by omega) _).mono ?_; rintro e w1 ⟨rfl, hb1⟩; have hm1 := hm.call hb1; clear hm))
  apply wp_region_lit
  refine wpList_val' rfl (by go_simp; rfl) ?_
  simp only [Act.put, List.setIfInBounds_toArray, List.set_cons_zero, List.set_cons_succ]
  refine wpList_mnz hm1 rfl rfl (n := k) rfl (by omega) ?_
  intro w2 g cs hN hm2
  clear hm1
  try simp only [Act.put, List.setIfInBounds_toArray, List.set_cons_zero, List.set_cons_succ]
  refine wpList_val' rfl (by go_simp; rfl) ?_
  simp only [Act.put, List.setIfInBounds_toArray, List.set_cons_zero, List.set_cons_succ]
  refine wpList_val' rfl (by go_simp; rfl) ?_
  simp only [Act.put, List.setIfInBounds_toArray, List.set_cons_zero, List.set_cons_succ]
  refine wpList_run rfl (exec_sub3 rfl HE.out rfl rfl rfl hN) ?_
  rw [subAt_zero]
  simp only [Act.put, List.setIfInBounds_toArray, List.set_cons_zero, List.set_cons_succ]
  refine wpList_val' rfl (by go_simp; rfl) ?_
  simp only [Act.put, List.setIfInBounds_toArray, List.set_cons_zero, List.set_cons_succ]
  refine wpList_nil ?_
  go_simp
  have hcp : ∀ (cells : Array Value) (W : World), Own w W [(g, cells)] [] → ∀ j u, [Value.int .u8 c][j]? = some u → W.cell? (A.add j) = some u := by
    intro cells W hW j u hj
    match j with
    | 0 =>
      simp at hj
      subst hj
      rw [Addr.add_zero']
      exact (hW.below.cell (block_lt_of_cell HA.out)).trans HA.out
    | j + 1 => simp at hj
  go_wp2_with (first
    | (refine wpList_run rfl (exec_copy (xs := [.int .u8 c]) rfl Tryz.underlying22 sz5 rfl rfl (hm2.row 0 rfl) (by simp [Nat.min_def]; omega) (hcp cs _ hm2) (by simp only [List.length_cons, List.length_nil]; omega) (one_list _ rfl)) ?_; have hm3 := hm2.setRow 0 (splice cs 0 [Value.int .u8 c].toArray) rfl; simp only [List.set] at hm3; clear hm2))
  have hsz := size_splice (cs := cs) (bp := 0) (m := 1) (v := .int .u8 c) (by omega)
  have htk := take_splice (cs := cs) (bp := 0) (m := 1) (v := .int .u8 c) rfl
  go_loopw [10] (fun u wr => ∃ (bp : Nat) (cells : Array Value), 1 ≤ bp ∧ bp ≤ k ∧ u = .int .i64 bp ∧ k ≤ cells.size ∧ Hid (cells.toList.take bp = List.replicate bp (.int .u8 c)) ∧ Own w wr [(g, cells)] []) (fun u _ => k - (intOf u).toNat)
  case atStart => exact ⟨1, _, by omega, by omega, rfl, by rw [hsz]; exact hN, htk, hm3⟩
  case round =>
    obtain ⟨bp, cells, h1, hbk, rfl, hN2, HT, hmr⟩ := hrel
    clear hm3 hsz htk
    by_cases hlt : bp < k
    · by_cases hb8 : 8192 < bp
      · have q1 : (8192 : Int) < bp := by omega
        go_wp2_with fail
        obtain ⟨m, hmm⟩ : ∃ m, m = Nat.min 8192 (k - bp) := ⟨_, rfl⟩
        have hm0 : 1 ≤ m ∧ m ≤ 8192 ∧ m ≤ k - bp := by rw [hmm]; simp only [Nat.min_def]; split <;> omega
        have HMM := Lib.hid hmm
        clear hmm
        have hwm : IntKind.i64.wrap ((bp : Int) + (m : Int)) = (bp : Int) + m := IntWalk.i64_in _ (by omega)
        have hS8 : Below w.heap.size w { wr with drawn := wr.drawn + 1 } := (hmr.drawn (wr.drawn + 1)).below
        refine wp_region_ord [(0, true), (1, true), (2, true), (3, true), (4, true), (5, true), (6, true), (7, false), (8, true), (9, true)] (fun W => Below w.heap.size w W) rfl (by kernel_rfl) rfl (by kernel_rfl) (fun _ _ d _ _ h => by cases d <;> exact h) hS8 ?_
        have hn := hmr.drawn (wr.drawn + 1)
        clear hS8
        generalize ({ wr with drawn := wr.drawn + 1 } : World) = wn at hn ⊢
        clear hmr
        refine ord_readl rfl rfl (fun W hW => by go_simp; rfl) ?_
        simp only [Act.put, List.setIfInBounds_toArray, List.set_cons_zero, List.set_cons_succ]
        refine ord_readl rfl rfl (fun W hW => by go_simp; rfl) ?_
        simp only [Act.put, List.setIfInBounds_toArray, List.set_cons_zero, List.set_cons_succ]
        refine ord_readl rfl rfl (fun W hW => by go_simp; rfl) ?_
        simp only [Act.put, List.setIfInBounds_toArray, List.set_cons_zero, List.set_cons_succ]
        refine ord_readl rfl rfl (fun W hW => exec_sub rfl HE.out rfl (.inr ⟨_, rfl⟩) (.inl ⟨rfl, rfl⟩) hbk (Nat.le_refl _)) ?_
        rw [subAt_mid g k bp hlt]
        simp only [Act.put, List.setIfInBounds_toArray, List.set_cons_zero, List.set_cons_succ]
        refine ord_readl rfl rfl (fun W hW => by go_simp; rfl) ?_
        simp only [Act.put, List.setIfInBounds_toArray, List.set_cons_zero, List.set_cons_succ]
        refine ord_readl rfl rfl (fun W hW => by go_simp; rfl) ?_
        simp only [Act.put, List.setIfInBounds_toArray, List.set_cons_zero, List.set_cons_succ]
        refine ord_readl rfl rfl (fun W hW => exec_sub (l := 0) (h := 8192) rfl HE.out rfl (.inl ⟨rfl, rfl⟩) (.inr ⟨_, rfl⟩) (Nat.zero_le _) (by omega)) ?_
        rw [subAt_zero]
        simp only [Act.put, List.setIfInBounds_toArray, List.set_cons_zero, List.set_cons_succ]
        have hm4 := hn.setRow 0 (splice cells bp (List.replicate m (Value.int .u8 c)).toArray) rfl
        simp only [List.set] at hm4
        refine ord_runl rfl rfl (exec_copy (xs := List.replicate m (.int .u8 c)) rfl Tryz.underlying22 sz5 rfl rfl (hn.row 0 rfl) (by rw [List.length_replicate, HMM.out]; try rfl) (fun j u hj => by obtain ⟨rfl, hjm⟩ := list_rep hj; exact cell_row (hn.row 0 rfl) j (get_take HT.out (by omega))) (by rw [List.length_replicate]; omega) (fun u hu => by rw [List.eq_of_mem_replicate hu]; rfl)) hm4.below ?_
        rw [List.length_replicate]
        simp only [Act.put, List.setIfInBounds_toArray, List.set_cons_zero, List.set_cons_succ]
        refine ord_readl rfl rfl (fun W hW => by go_simp; rfl) ?_
        simp only [Act.put, List.setIfInBounds_toArray, List.set_cons_zero, List.set_cons_succ]
        refine ord_readl rfl rfl (fun W hW => by go_simp; rfl) ?_
        simp only [Act.put, List.setIfInBounds_toArray, List.set_cons_zero, List.set_cons_succ]
        refine ord_nil ?_
        have hts := take_splice (m := m) HT.out
        have hss := size_splice (cs := cells) (bp := bp) (m := m) (v := .int .u8 c) (by omega)
        clear hn HMM
        go_simp
        go_wp2
        go_roundw
        case rel => exact ⟨bp + m, _, by omega, by omega, by go_num, by rw [hss]; exact hN2, hts, hm4⟩
        case measure => simp [intOf]; omega
      · have q1 : ¬ (8192 : Int) < bp := by omega
        go_wp2_with fail
        obtain ⟨m, hmm⟩ : ∃ m, m = Nat.min bp (k - bp) := ⟨_, rfl⟩
        have hm0 : 1 ≤ m ∧ m ≤ bp ∧ m ≤ k - bp := by rw [hmm]; simp only [Nat.min_def]; split <;> omega
        have HMM := Lib.hid hmm
        clear hmm
        have hwm : IntKind.i64.wrap ((bp : Int) + (m : Int)) = (bp : Int) + m := IntWalk.i64_in _ (by omega)
        have hS8 : Below w.heap.size w { wr with drawn := wr.drawn + 1 } := (hmr.drawn (wr.drawn + 1)).below
        refine wp_region_ord [(0, true), (1, true), (2, true), (3, true), (4, true), (5, true), (6, true), (7, false), (8, true), (9, true)] (fun W => Below w.heap.size w W) rfl (by kernel_rfl) rfl (by kernel_rfl) (fun _ _ d _ _ h => by cases d <;> exact h) hS8 ?_
        have hn := hmr.drawn (wr.drawn + 1)
        clear hS8
        generalize ({ wr with drawn := wr.drawn + 1 } : World) = wn at hn ⊢
        clear hmr
        refine ord_readl rfl rfl (fun W hW => by go_simp; rfl) ?_
        simp only [Act.put, List.setIfInBounds_toArray, List.set_cons_zero, List.set_cons_succ]
        refine ord_readl rfl rfl (fun W hW => by go_simp; rfl) ?_
        simp only [Act.put, List.setIfInBounds_toArray, List.set_cons_zero, List.set_cons_succ]
        refine ord_readl rfl rfl (fun W hW => by go_simp; rfl) ?_
        simp only [Act.put, List.setIfInBounds_toArray, List.set_cons_zero, List.set_cons_succ]
        refine ord_readl rfl rfl (fun W hW => exec_sub rfl HE.out rfl (.inr ⟨_, rfl⟩) (.inl ⟨rfl, rfl⟩) hbk (Nat.le_refl _)) ?_
        rw [subAt_mid g k bp hlt]
        simp only [Act.put, List.setIfInBounds_toArray, List.set_cons_zero, List.set_cons_succ]
        refine ord_readl rfl rfl (fun W hW => by go_simp; rfl) ?_
        simp only [Act.put, List.setIfInBounds_toArray, List.set_cons_zero, List.set_cons_succ]
        refine ord_readl rfl rfl (fun W hW => by go_simp; rfl) ?_
        simp only [Act.put, List.setIfInBounds_toArray, List.set_cons_zero, List.set_cons_succ]
        refine ord_readl rfl rfl (fun W hW => exec_sub (l := 0) (h := bp) rfl HE.out rfl (.inl ⟨rfl, rfl⟩) (.inr ⟨_, rfl⟩) (Nat.zero_le _) (by omega)) ?_
        rw [subAt_zero]
        simp only [Act.put, List.setIfInBounds_toArray, List.set_cons_zero, List.set_cons_succ]
        have hm4 := hn.setRow 0 (splice cells bp (List.replicate m (Value.int .u8 c)).toArray) rfl
        simp only [List.set] at hm4
        refine ord_runl rfl rfl (exec_copy (xs := List.replicate m (.int .u8 c)) rfl Tryz.underlying22 sz5 rfl rfl (hn.row 0 rfl) (by rw [List.length_replicate, HMM.out]; try rfl) (fun j u hj => by obtain ⟨rfl, hjm⟩ := list_rep hj; exact cell_row (hn.row 0 rfl) j (get_take HT.out (by omega))) (by rw [List.length_replicate]; omega) (fun u hu => by rw [List.eq_of_mem_replicate hu]; rfl)) hm4.below ?_
        rw [List.length_replicate]
        simp only [Act.put, List.setIfInBounds_toArray, List.set_cons_zero, List.set_cons_succ]
        refine ord_readl rfl rfl (fun W hW => by go_simp; rfl) ?_
        simp only [Act.put, List.setIfInBounds_toArray, List.set_cons_zero, List.set_cons_succ]
        refine ord_readl rfl rfl (fun W hW => by go_simp; rfl) ?_
        simp only [Act.put, List.setIfInBounds_toArray, List.set_cons_zero, List.set_cons_succ]
        refine ord_nil ?_
        have hts := take_splice (m := m) HT.out
        have hss := size_splice (cs := cells) (bp := bp) (m := m) (v := .int .u8 c) (by omega)
        clear hn HMM
        go_simp
        go_wp2
        go_roundw
        case rel => exact ⟨bp + m, _, by omega, by omega, by go_num, by rw [hss]; exact hN2, hts, hm4⟩
        case measure => simp [intOf]; omega
    · obtain rfl : k = bp := by omega
      go_wp2_with fail
      go_ret
      exact ⟨⟨g, cells, by rw [List.length_replicate]; rfl, hmr.row 0 rfl, hmr.mem.own _ (List.mem_cons_self ..), by rw [List.length_replicate, HT.out]; simp [vs]⟩, hmr.below⟩
theorem repeat_any (c : Int) (v : Value) (k : Nat) (w : World) (hk : k ≤ 65536) (A : Addr) (cp : Nat) (hv : v = .slice (some A) 1 cp) (hA : w.cell? A = some (.int .u8 c)) : Calls Tryz.prog 251 #[v, .int .i64 k] w (BytesPost w (List.replicate k c)) := by
  subst hv
  by_cases h0 : k = 0
  · subst h0; exact repeat_none A cp w
  by_cases hs : 8192 < k
  · exact repeat_big c A cp k w (by omega) hk hA hs
  · exact repeat_small c A cp k w (by omega) hk hA hs
end Go.Proofs.YtkpbhdhkdonghaaGreat

namespace Go.Proofs.YtkpbhdhkdonghaaGreat
open Go Go.RowKit
def AR (d : Value) (live peak : Int) : Array Value := #[d, .int .i64 live, .int .i64 peak]
def SP (at_ len : Int) : Array Value := #[.int .i64 at_, .int .i64 len]
def rds : Nat → Nat → OT
  | _, 0 => .done
  | i, n + 1 => .rd i (rds (i + 1) n)
theorem RowIs.keep {w : World} {g : Nat} {cs : Array Value} (h : RowIs w g cs) : ∀ W, Below w.heap.size w W → RowIs W g cs := fun W hb => by
  obtain ⟨t, ht⟩ := h
  exact ⟨t, (hb.block g (Array.getElem?_eq_some_iff.1 ht).1).trans ht⟩
theorem SP0 (a n : Int) : (SP a n)[0]? = some (.int .i64 a) := rfl
theorem SP1 (a n : Int) : (SP a n)[1]? = some (.int .i64 n) := rfl
theorem AR0 (d : Value) (l p : Int) : (AR d l p)[0]? = some d := rfl
theorem AR1 (d : Value) (l p : Int) : (AR d l p)[1]? = some (.int .i64 l) := rfl
theorem AR2 (d : Value) (l p : Int) : (AR d l p)[2]? = some (.int .i64 p) := rfl
theorem agg50 : AggTy Tryz.prog 50 2 := AggTy.mk' Tryz.underlying50 rfl (by kernel_rfl)
theorem SP_one (a n : Int) : ∀ v ∈ SP a n, v.oneCell' = true := fun v hv => by
  simp only [SP, List.mem_toArray, List.mem_cons, List.not_mem_nil, or_false] at hv
  rcases hv with rfl | rfl <;> rfl
set_option maxRecDepth 100000 in
set_option maxHeartbeats 1000000 in
theorem has_ok (ga : Nat) (d : Value) (live peak a n : Int) (w : World) (hr : RowIs w ga (AR d live peak)) (h0 : 0 ≤ a) (h1 : 0 ≤ n) (h2 : a + n ≤ live) (h3 : live ≤ 1048576) : Calls Tryz.prog 64 #[.pointer (some ⟨ga, 0, none⟩), .agg (SP a n)] w fun e w' => (e = .returned (.bool true)) ∧ Below w.heap.size w w' := by
  have q1 : decide (0 ≤ a) = true := decide_eq_true h0
  have q2 : decide (0 ≤ n) = true := decide_eq_true h1
  have q3 : decide (a ≤ live) = true := decide_eq_true (by omega)
  have q4 : decide (n ≤ live - a) = true := decide_eq_true (by omega)
  have hw : IntKind.i64.wrap (live - a) = live - a := IntWalk.i64_in _ (by omega)
  clear h0 h1 h2 h3
  go_enter Tryz.func64, Tryz.ntmps64
  have hm := Own.nil w
  go_wp2_with (first
    | (refine wpList_box_o hm rfl rfl rfl ?_; intro w1 g hm1; clear hm))
  have HR := Lib.hid hr.keep
  clear hr
  refine wp_region_T (rds 0 34) (fun W => Below w.heap.size w W ∧ RowIs W g (SP a n) ∧ RowIs W ga (AR d live peak)) rfl (by kernel_rfl) rfl (by kernel_rfl) (fun _ _ d _ _ h => by cases d <;> exact h) ⟨(hm1.drawn (w1.drawn + 1)).below, (hm1.drawn (w1.drawn + 1)).row 0 rfl, HR.out _ (hm1.drawn (w1.drawn + 1)).below⟩ ?_
  have hn := hm1.drawn (w1.drawn + 1)
  generalize ({ w1 with drawn := w1.drawn + 1 } : World) = wn at hn ⊢
  clear hm1 HR
  simp only [rds]
  repeat ((first
    | (refine T_read rfl rfl (fun W hW => exec_loadcell' (off := 0) rfl rfl hW.2.1 one3 (SP0 _ _)) ?_)
    | (refine T_read rfl rfl (fun W hW => exec_loadcell' (off := 1) rfl rfl hW.2.1 one3 (SP1 _ _)) ?_)
    | (refine T_read rfl rfl (fun W hW => exec_loadcell' (off := 1) rfl rfl hW.2.2 one3 (AR1 _ _ _)) ?_)
    | (refine T_read rfl rfl (fun W hW => by go_simp; rfl) ?_)); (try simp only [Act.put, List.setIfInBounds_toArray, List.set_cons_zero, List.set_cons_succ]))
  refine T_done ?_
  go_simp
  go_wp2
  go_ret
  exact ⟨rfl, hn.below⟩
theorem run_sub4 {P : Program} {w : World} {t e : TypeId} {i : TypeInfo} {z : Value} {bytes : Nat} (he : ElTy P t e i z bytes) {ad : Option Addr} {n c l h m : Nat} (h1 : l ≤ h) (h2 : h ≤ m) (h3 : m ≤ c) :
    (Instr.sliceAt t (.slice ad n c) (some (.int .i64 l)) (some (.int .i64 h)) (some (.int .i64 m))).run P w = .ok (.slice (subAt ad m l) (h - l) (m - l)) w := by
  unfold Instr.sliceAt
  rw [Sem.run_bind, run_underlying he.under]
  simp only [Result.andThen_ok]
  unfold Instr.slice
  rw [Sem.run_bind, run_underlying he.under]
  simp only [Result.andThen_ok]
  simp [Instr.sliceBounds, Instr.sliceBound, asIntOf, sizeOf, typeInfo, he.info, he.size, subAt, h1, h2, h3, Result.andThen]
theorem exec_sub4 {P : Program} {w : World} {o : Oper} {a : Act} {t e : TypeId} {i : TypeInfo} {z : Value} {bytes : Nat} {x y u v : Operand} (ho : o.op = .slice t x (some y) (some u) (some v)) (he : ElTy P t e i z bytes) {ad : Option Addr} {n c l h m : Nat} (hx : a.eval x = .slice ad n c) (hy : a.eval y = .int .i64 l) (hu : a.eval u = .int .i64 h) (hv : a.eval v = .int .i64 m) (h1 : l ≤ h) (h2 : h ≤ m) (h3 : m ≤ c) :
    (execOp a.eval o).run P w = .ok (.value (.slice (subAt ad m l) (h - l) (m - l))) w := by
  unfold execOp
  simp only [ho, hx, hy, hu, hv, Sem.run_bind, Option.map_some, run_sub4 he h1 h2 h3, Result.andThen_ok, Sem.run_pure]
theorem aggSP (a n : Int) : AggTy Tryz.prog 50 (SP a n).size := agg50
set_option maxRecDepth 100000 in
set_option maxHeartbeats 1000000 in
theorem part_ok (ga gd L a n i k : Nat) (live peak : Int) (w : World) (hr : RowIs w ga (AR (.slice (some ⟨gd, 0, none⟩) L L) live peak)) (h1 : (a : Int) + n ≤ live) (h2 : live ≤ L) (h3 : L ≤ 1048576) (h4 : i + k ≤ n) (h5 : 0 < k) : Calls Tryz.prog 162 #[.pointer (some ⟨ga, 0, none⟩), .agg (SP a n), .int .i64 i, .int .i64 k] w fun e w' => (e = .returned (.slice (some ⟨gd, a + i, none⟩) k k)) ∧ Below w.heap.size w w' := by
  have CH : Hid (∀ W, RowIs W ga (AR (.slice (some ⟨gd, 0, none⟩) L L) live peak) → Calls Tryz.prog 64 #[.pointer (some ⟨ga, 0, none⟩), .agg (SP a n)] W fun e w' => (e = .returned (.bool true)) ∧ Below W.heap.size W w') := Lib.hid fun W h => has_ok ga _ live peak a n W h (by omega) (by omega) h1 (by omega)
  have HR := Lib.hid hr.keep
  have q1 : decide ((i : Int) < 0) = false := decide_eq_false (by omega)
  have q2 : decide ((n : Int) - k < i) = false := decide_eq_false (by omega)
  have w1 : IntKind.i64.wrap ((n : Int) - k) = (n : Int) - k := IntWalk.i64_in _ (by omega)
  have w2 : IntKind.i64.wrap ((i : Int) + a) = ((a + i : Nat) : Int) := by rw [IntWalk.i64_in _ (by omega)]; push_cast; omega
  have w3 : IntKind.i64.wrap (((a + i : Nat) : Int) + k) = ((a + i + k : Nat) : Int) := by rw [IntWalk.i64_in _ (by omega)]; push_cast; omega
  have c1 : a + i ≤ a + i + k := by omega
  have c2 : a + i + k ≤ L := by omega
  have HS : Hid (Value.slice (subAt (some ⟨gd, 0, none⟩) (a + i + k) (a + i)) (a + i + k - (a + i)) (a + i + k - (a + i)) = .slice (some ⟨gd, a + i, none⟩) k k) := Lib.hid (by rw [subAt_mid _ _ _ (by omega), show a + i + k - (a + i) = k by omega])
  obtain ⟨i5, hE⟩ := el24
  have HE := Lib.hid hE
  clear hr h1 h2 h3 h4 h5 hE
  generalize a + i = p at *
  generalize p + k = e at *
  go_enter Tryz.func162, Tryz.ntmps162
  have hm := Own.nil w
  go_wp2_with (first
    | (refine wpList_box_o hm rfl rfl rfl ?_; intro w1 g hm1; clear hm)
    | (refine wpList_load_all rfl rfl rfl (hm1.row 0 rfl) (aggSP _ _) ?_)
    | (go_at_call 64; have _t := hm1; refine (CH.out _ (HR.out _ hm1.below)).mono ?_; rintro x w2 ⟨rfl, hb2⟩; have hm2 := hm1.call hb2; clear hm1)
    | (refine wpList_run rfl (exec_loadcell' (off := 1) rfl rfl (hm2.row 0 rfl) one3 (SP1 _ _)) ?_)
    | (refine wpList_run rfl (exec_loadcell' (off := 0) rfl rfl (hm2.row 0 rfl) one3 (SP0 _ _)) ?_)
    | (refine wpList_run rfl (exec_loadcell' (off := 0) rfl rfl (HR.out _ hm2.below) one22 (AR0 _ _ _)) ?_)
    | (refine wpList_run rfl (exec_sub4 rfl HE.out rfl rfl rfl rfl c1 (Nat.le_refl _) c2) ?_))
  go_ret
  exact ⟨by rw [← HS.out]; rfl, hm2.below⟩
theorem run_eqslnilP {P : Program} (w : World) (d : Nat) (t e : TypeId) (A : Addr) (n c : Nat) (h : P.underlying t = some (.slice e)) : (Op.equalIn (d + 1) t (.slice (some A) n c) (.slice none 0 0)).run P w = .ok false w := by
  simp [Op.equalIn, run_underlying h]
theorem run_eqslnil (w : World) (A : Addr) (n c : Nat) : (Op.equal 22 (.slice (some A) n c) (.slice none 0 0)).run Tryz.prog w = .ok false w := run_eqslnilP w 9999 22 5 A n c Tryz.underlying22
theorem exec_eqnil {w : World} {o : Oper} {a : Act} {x y : Operand} {t' : TypeId} (ho : o.op = .binOp .eql 22 x y t') {A : Addr} {n c : Nat} (hx : a.eval x = .slice (some A) n c) (hy : a.eval y = .slice none 0 0) : (execOp a.eval o).run Tryz.prog w = .ok (.value (.bool false)) w := by
  unfold execOp
  simp [ho, hx, hy, eqGuard, binOp, run_eqslnil, Result.andThen]
theorem exec_index0 {P : Program} {w : World} {o : Oper} {a : Act} {t e : TypeId} {i : TypeInfo} {z : Value} {bytes : Nat} {x y : Operand} (ho : o.op = .indexAddr t x y) (he : ElTy P t e i z bytes) {g p n c : Nat} (hx : a.eval x = .slice (some ⟨g, p, none⟩) n c) (hy : a.eval y = .int .i64 0) (hk : 0 < n) :
    (execOp a.eval o).run P w = .ok (.value (.pointer (some ⟨g, p, none⟩))) w := by
  have h := exec_indexAddr_sl (P := P) (w := w) ho he hx (k := 0) hy rfl hk
  rw [h, Addr.add_lit, Nat.add_zero]
set_option maxRecDepth 100000 in
set_option maxHeartbeats 1000000 in
theorem byte_ok (ga gd a n i : Nat) (l : List Int) (live peak : Int) (w : World) (hr : RowIs w ga (AR (.slice (some ⟨gd, 0, none⟩) l.length l.length) live peak)) (hd : RowIs w gd (B l)) (h1 : (a : Int) + n ≤ live) (h2 : live ≤ l.length) (h3 : l.length ≤ 1048576) (h4 : i < n) : Calls Tryz.prog 116 #[.pointer (some ⟨ga, 0, none⟩), .agg (SP a n), .int .i64 i] w fun e w' => (e = .returned (.tuple #[.int .u8 (gi l (a + i)), .bool true])) ∧ Below w.heap.size w w' := by
  have CP : Hid (∀ W, Below w.heap.size w W → Calls Tryz.prog 162 #[.pointer (some ⟨ga, 0, none⟩), .agg (SP a n), .int .i64 i, .int .i64 1] W fun e w' => (e = .returned (.slice (some ⟨gd, a + i, none⟩) 1 1)) ∧ Below W.heap.size W w') := Lib.hid fun W h => part_ok ga gd l.length a n i 1 live peak W (hr.keep W h) h1 h2 h3 (by omega) (by omega)
  have HD := Lib.hid hd.keep
  have hg : (B l)[a + i]? = some (.int .u8 (gi l (a + i))) := get_B l (a + i) (by omega)
  obtain ⟨i5, hE⟩ := el24
  have HE := Lib.hid hE
  clear hr hd h1 h2 h3 h4 hE
  generalize a + i = p at *
  go_enter Tryz.func116, Tryz.ntmps116
  have hm := Own.nil w
  go_wp2_with (first
    | (refine wpList_box_o hm rfl rfl rfl ?_; intro w1 g hm1; clear hm)
    | (refine wpList_load_all rfl rfl rfl (hm1.row 0 rfl) (aggSP _ _) ?_)
    | (go_at_call 162; have _t := hm1; refine (CP.out _ hm1.below).mono ?_; rintro x w2 ⟨rfl, hb2⟩; have hm2 := hm1.call hb2; clear hm1)
    | (refine wpList_run rfl (exec_eqnil rfl rfl rfl) ?_)
    | (refine wpList_run rfl (exec_index0 rfl HE.out rfl rfl (by decide)) ?_)
    | (refine wpList_run rfl (exec_loadcell' (off := p) rfl rfl (HD.out _ hm2.below) one5 hg) ?_))
  go_ret2
  exact ⟨rfl, hm2.below⟩
end Go.Proofs.YtkpbhdhkdonghaaGreat

namespace Go.Proofs.YtkpbhdhkdonghaaGreat
open Go Go.RowKit
def rdt : Nat → Nat → OT → OT
  | _, 0, t => t
  | i, n + 1, t => .rd i (rdt (i + 1) n t)
end Go.Proofs.YtkpbhdhkdonghaaGreat

namespace Go.Proofs.YtkpbhdhkdonghaaGreat
open Go Go.RowKit
def putAll : Array Value → Nat → List Value → Array Value
  | cs, _, [] => cs
  | cs, o, v :: r => putAll (cs.setIfInBounds o v) (o + 1) r
theorem set_self {α : Type} (l : List α) (i : Nat) (x : α) (h : l[i]? = some x) : l.set i x = l := by
  apply List.ext_getElem?
  intro j
  by_cases hj : i = j
  · subst hj
    have := (List.getElem?_eq_some_iff.1 h).1
    rw [List.getElem?_set_self this, h]
  · rw [List.getElem?_set_ne hj]
theorem Own.setCells {w0 : World} {ss : List Sl} {g : Nat} (i : Nat) : ∀ (vs : List Value) (o : Nat) (w : World) (rs : List (Nat × Array Value)) (cs : Array Value), Own w0 w rs ss → rs[i]? = some (g, cs) → Own w0 (w.setCells g o vs) (rs.set i (g, putAll cs o vs)) ss
  | [], o, w, rs, cs, h, hi => by rw [putAll, set_self rs i _ hi]; exact h
  | v :: vs, o, w, rs, cs, h, hi => by
    have h1 := h.setCell i o v hi
    have hl := (List.getElem?_eq_some_iff.1 hi).1
    have h2 := Own.setCells i vs (o + 1) _ _ (cs.setIfInBounds o v) h1 (by rw [List.getElem?_set_self hl])
    rw [List.set_set] at h2
    exact h2
theorem run_clear0 {P : Program} {t e : TypeId} (ht : P.underlying t = some (.slice e)) (ty : TypeId) (a : Option Addr) (c : Nat) (w : World) : (Builtin.clear_ #[t] ty #[.slice a 0 c]).run P w = .ok (.tuple #[]) w := by
  cases a <;> simp [Builtin.clear_, run_underlying ht]
theorem exec_clear0 {w : World} {o : Oper} {a : Act} {x : Operand} (ho : o.op = .call { callee := .builtin .clear, args := #[x], argTypes := #[22] }) {A : Option Addr} {c : Nat} (hx : a.eval x = .slice A 0 c) : (execOp a.eval o).run Tryz.prog w = .ok (.value (.tuple #[])) w := by
  unfold execOp
  simp only [ho, resolve, invoke, builtin, Sem.run_bind, Sem.run_pure, Result.andThen_ok, List.map_toArray, List.map_cons, List.map_nil, hx, run_clear0 Tryz.underlying22]
theorem zero50 (w : World) : (zeroValue 50).run Tryz.prog w = .ok (.agg (SP 0 0)) w := by kernel_rfl
theorem AR_set1 (d : Value) (l p n : Int) : (AR d l p).setIfInBounds 1 (.int .i64 n) = AR d n p := rfl
theorem AR_set2 (d : Value) (l p n : Int) : (AR d l p).setIfInBounds 2 (.int .i64 n) = AR d l n := rfl
def imax (a b : Int) : Int := if a < b then b else a
theorem exec_sub_zero {P : Program} {w : World} {o : Oper} {a : Act} {t e : TypeId} {i : TypeInfo} {z : Value} {bytes : Nat} {x lo hi : Operand} (ho : o.op = .slice t x (some lo) (some hi) none) (he : ElTy P t e i z bytes) {ad : Option Addr} {n c l h : Nat} (hx : a.eval x = .slice ad n c) (hl : a.eval lo = .int .i64 l) (hh : a.eval hi = .int .i64 h) (hm : h = l) (h2 : l ≤ c) :
    (execOp a.eval o).run P w = .ok (.value (.slice (subAt ad c l) 0 (c - l))) w := by
  have h := exec_sub (P := P) (w := w) (l := l) (h := h) ho he hx (.inr ⟨.i64, by simp [hl]⟩) (.inr ⟨.i64, by simp [hh]⟩) (by omega) (by omega)
  rw [h, hm, Nat.sub_self]
theorem exec_setcell {P : Program} {w0 w : World} {rs : List (Nat × Array Value)} {ss : List Sl} {o : Oper} {a : Act} (i : Nat) (hm : Own w0 w rs ss) {ty : TypeId} {x y : Operand} (ho : o.op = .store ty x y) {g off : Nat} (hx : a.eval x = .pointer (some ⟨g, off, none⟩)) {v : Value} (hy : a.eval y = v) {cs : Array Value} (hi : rs[i]? = some (g, cs)) (ht : OneTy P ty) (hf : off < cs.size) (hc : v.cells = #[v]) (h1 : v.oneCell' = true) :
    (execOp a.eval o).run P w = .ok .skip (w.setCell ⟨g, off, none⟩ v) := by
  have hr := hm.row i hi
  have hcell : w.cell? ⟨g, off, none⟩ = some cs[off] := by rw [hr.cell]; simp [hf]
  have hst : (store ⟨g, off, none⟩ v).run P w = .ok () (w.setCell ⟨g, off, none⟩ v) := by
    rw [run_store P w _ v _ h1, hcell]
    simp [hr.free off]
  cases hq : P.info? ty with
  | none => have := ht.2; simp [hq] at this
  | some i =>
    have hs : i.size = 1 := by have := ht.2; simpa [hq] using this
    unfold execOp
    simp only [ho, hx, hy, Instr.storeAt, Instr.sureAddr, Sem.run_bind, Sem.run_pure, Result.andThen_ok, storeVar, hc, sizeOf, typeInfo, run_program, hq, hs]
    simp [storeCells, Addr.add_zero', hst, Result.andThen]
theorem oneT_setcell {P : Program} {ops : Array Oper} {Q : Exit → Act → World → Prop} {k : Nat} {t : OT} {S : World → Prop} {w0 w : World} {rs : List (Nat × Array Value)} {ss : List Sl} {o : Oper} {a : Act} (i : Nat) (hm : Own w0 w rs ss) (ho' : ops.toList[k]? = some o) (hw : Region.wanted o (yielded ops a.tmps) = true) {ty : TypeId} {x y : Operand} (ho : o.op = .store ty x y) {g off : Nat} (hx : a.eval x = .pointer (some ⟨g, off, none⟩)) {v : Value} (hy : a.eval y = v) {cs : Array Value} (hi : rs[i]? = some (g, cs)) (ht : OneTy P ty) (hf : off < cs.size) (hc : v.cells = #[v]) (h1 : v.oneCell' = true)
    (hS : ∀ w', Own w0 w' (rs.set i (g, cs.setIfInBounds off v)) ss → S w') (h : ∀ w', Own w0 w' (rs.set i (g, cs.setIfInBounds off v)) ss → wpT P ops Q t S (a.put o.dst undef) w') : oneT P ops Q k t S a w :=
  oneT_skips ho' hw (exec_setcell i hm ho hx hy hi ht hf hc h1) (hS _ (hm.setCell i off v hi)) (h _ (hm.setCell i off v hi))
set_option maxRecDepth 100000 in
set_option maxHeartbeats 4000000 in
theorem take_zero (ga gd live n : Nat) (l : List Int) (peak : Int) (w0 w : World) (rs : List (Nat × Array Value)) (ss : List Sl) (hm : Own w0 w ((ga, AR (.slice (some ⟨gd, 0, none⟩) l.length l.length) live peak) :: (gd, B l) :: rs) ss) (h2 : live + n ≤ l.length) (h3 : l.length ≤ 1048576) (h4 : n = 0) : Calls Tryz.prog 23 #[.pointer (some ⟨ga, 0, none⟩), .int .i64 n] w fun e w' => (e = .returned (.tuple #[.agg (SP live n), .int .i64 0])) ∧ Own w0 w' ((ga, AR (.slice (some ⟨gd, 0, none⟩) l.length l.length) ((live + n : Nat) : Int) (imax peak ((live + n : Nat) : Int))) :: (gd, B l) :: rs) ss := by
  have q1 : decide ((n : Int) < 0) = false := decide_eq_false (by omega)
  have q2 : decide ((l.length : Int) - live < n) = false := decide_eq_false (by omega)
  have w1 : IntKind.i64.wrap ((l.length : Int) - live) = (l.length : Int) - live := IntWalk.i64_in _ (by omega)
  have w2 : IntKind.i64.wrap ((live : Int) + n) = ((live + n : Nat) : Int) := by rw [IntWalk.i64_in _ (by omega)]; push_cast; rfl
  have c1 : live ≤ live + n := by omega
  have H2 := Lib.hid h2
  obtain ⟨e, hee⟩ : ∃ e, e = live + n := ⟨_, rfl⟩
  rw [← hee] at w2 c1 ⊢
  have HEE := Lib.hid hee
  have HLE : Hid (live ≤ l.length) := Lib.hid (by omega)
  have HZ : Hid (e = live) := Lib.hid (by omega)
  clear h4
  clear hee h2
  obtain ⟨i5, hE⟩ := el24
  have HE := Lib.hid hE
  clear hE
  go_enter Tryz.func23, Tryz.ntmps23
  go_wp2_with (first
    | (refine wpList_alloc_o hm rfl rfl zero50 ?_; intro w3 g hm1; clear hm))
  refine wp_region_T (rdt 0 13 .done) (fun W => RowIs W ga (AR (.slice (some ⟨gd, 0, none⟩) l.length l.length) live peak)) rfl (by kernel_rfl) rfl (by kernel_rfl) (fun _ _ d _ _ h => by cases d <;> exact h) ((hm1.drawn (w3.drawn + 1)).row 1 rfl) ?_
  have hn := hm1.drawn (w3.drawn + 1)
  generalize ({ w3 with drawn := w3.drawn + 1 } : World) = wn at hn ⊢
  clear hm1
  simp only [rdt]
  repeat ((first
    | (refine T_read rfl rfl (fun W hW => exec_loadcell' (off := 0) rfl rfl hW one22 (AR0 _ _ _)) ?_)
    | (refine T_read rfl rfl (fun W hW => exec_loadcell' (off := 1) rfl rfl hW one3 (AR1 _ _ _)) ?_)
    | (refine T_read rfl rfl (fun W hW => by go_simp; rfl) ?_)); (try simp only [Act.put, List.setIfInBounds_toArray, List.set_cons_zero, List.set_cons_succ]))
  refine T_done ?_
  go_simp
  go_upto_region 6 with (first
    | (refine wpList_run rfl (exec_loadcell' (off := 1) rfl rfl (hn.row 1 rfl) one3 (AR1 _ _ _)) ?_)
    | (refine wpList_alloc_o hn rfl rfl zero50 ?_; intro w4 g6 hm4; clear hn)
    | (refine wpList_store_o (vs := SP live n) 0 hm4 rfl rfl rfl rfl rfl (aggSP _ _) rfl (SP_one _ _) ?_; intro w5 hm5; simp only [List.set] at hm5; clear hm4))
  refine wp_region_T (rdt 0 11 (.one 11 .done)) (fun W => RowIs W g6 (SP live n) ∧ RowIs W ga (AR (.slice (some ⟨gd, 0, none⟩) l.length l.length) live peak)) rfl (by kernel_rfl) rfl (by kernel_rfl) (fun _ _ d _ _ h => by cases d <;> exact h) ⟨(hm5.drawn (w5.drawn + 1)).row 0 rfl, (hm5.drawn (w5.drawn + 1)).row 2 rfl⟩ ?_
  have k1 := hm5.drawn (w5.drawn + 1)
  generalize ({ w5 with drawn := w5.drawn + 1 } : World) = wn2 at k1 ⊢
  clear hm5
  simp only [rdt]
  repeat ((first
    | (refine T_read rfl rfl (fun W hW => exec_loadcell' (off := 0) rfl rfl hW.2 one22 (AR0 _ _ _)) ?_)
    | (refine T_read rfl rfl (fun W hW => exec_loadcell' (off := 0) rfl rfl hW.1 one3 (SP0 _ _)) ?_)
    | (refine T_read rfl rfl (fun W hW => exec_sub_zero (l := live) (h := e) rfl HE.out rfl rfl rfl HZ.out HLE.out) ?_)
    | (refine T_read rfl rfl (fun W hW => by go_simp; rfl) ?_)); (try simp only [Act.put, List.setIfInBounds_toArray, List.set_cons_zero, List.set_cons_succ]))
  refine T_one ?_
  refine oneT_run rfl rfl (exec_clear0 rfl rfl) ⟨k1.row 0 rfl, k1.row 2 rfl⟩ ?_
  have k2 := k1
  clear k1
  try simp only [Act.put]
  refine T_done ?_
  go_simp
  go_upto_region 8 with (first
    | (refine wpList_run rfl (exec_loadcell' (off := 1) rfl rfl (k2.row 2 rfl) one3 (AR1 _ _ _)) ?_)
    | (refine wpList_storecell_o (off := 1) (v := .int .i64 (e : Int)) 2 k2 rfl rfl rfl rfl rfl one3 (by show 1 < 3; decide) rfl rfl (AR_set1 _ _ _ _) ?_; intro w7 hm7; simp only [List.set] at hm7; clear k2))
  refine wp_region_T (rdt 0 4 (rdt 5 4 (.one 4 (rdt 9 3 (.one 12 .done))))) (fun W => ∃ p, RowIs W ga (AR (.slice (some ⟨gd, 0, none⟩) l.length l.length) (e : Int) p)) rfl (by kernel_rfl) rfl (by kernel_rfl) (fun _ _ d _ _ h => by cases d <;> exact h) ⟨_, (hm7.drawn (w7.drawn + 1)).row 2 rfl⟩ ?_
  have k3 := hm7.drawn (w7.drawn + 1)
  generalize ({ w7 with drawn := w7.drawn + 1 } : World) = wn3 at k3 ⊢
  clear hm7
  simp only [rdt]
  repeat ((first
    | (refine T_read rfl rfl (fun W hW => by obtain ⟨p, hp⟩ := hW; exact exec_loadcell' (off := 1) rfl rfl hp one3 (AR1 _ _ _)) ?_)
    | (refine T_read rfl rfl (fun W hW => by go_simp; rfl) ?_)); (try simp only [Act.put, List.setIfInBounds_toArray, List.set_cons_zero, List.set_cons_succ]))
  refine T_one ?_
  refine oneT_run rfl rfl (exec_loadcell' (off := 2) rfl rfl (k3.row 2 rfl) one3 (AR2 _ _ _)) ⟨_, k3.row 2 rfl⟩ ?_
  simp only [Act.put, List.setIfInBounds_toArray, List.set_cons_zero, List.set_cons_succ]
  refine T_read (v := .int .i64 (imax peak (e : Int))) rfl rfl (fun W hW => by go_simp; rfl) ?_
  simp only [Act.put, List.setIfInBounds_toArray, List.set_cons_zero, List.set_cons_succ]
  refine T_read rfl rfl (fun W hW => by go_simp; rfl) ?_
  simp only [Act.put, List.setIfInBounds_toArray, List.set_cons_zero, List.set_cons_succ]
  refine T_read rfl rfl (fun W hW => by go_simp; rfl) ?_
  simp only [Act.put, List.setIfInBounds_toArray, List.set_cons_zero, List.set_cons_succ]
  refine T_one ?_
  refine oneT_setcell (v := .int .i64 (imax peak (e : Int))) (off := 2) 2 k3 rfl rfl rfl rfl rfl rfl one3 (by show 2 < 3; decide) rfl rfl (fun w8 k4 => ⟨_, k4.row 2 rfl⟩) (fun w8 k4 => ?_)
  simp only [List.set, AR_set2] at k4
  clear k3
  try simp only [Act.put]
  refine T_done ?_
  go_simp
  go_wp2_with (first
    | (refine wpList_load_all rfl rfl rfl (k4.row 0 rfl) (aggSP _ _) ?_)
    | (refine wpList_store_o 1 k4 rfl rfl rfl rfl rfl (aggSP _ _) rfl (SP_one _ _) ?_; intro w9 k5; simp only [List.set] at k5; clear k4))
  refine bodyPost_ret (results_agg2 rfl rfl (k5.row 1 rfl) (aggSP _ _)) rfl ?_
  exact ⟨rfl, k5.dropRow.dropRow⟩
end Go.Proofs.YtkpbhdhkdonghaaGreat

namespace Go.Proofs.YtkpbhdhkdonghaaGreat
open Go Go.RowKit
def oneL : List Nat := [3, 4, 5, 9, 22, 25, 46, 68, 70, 72, 97, 102, 104, 124, 211, 232, 239, 276, 304, 311, 361]
theorem ot {t : Nat} (h : oneL.contains t = true) : OneTy Tryz.prog t := by
  simp only [oneL, List.contains_cons, List.contains_nil, Bool.or_eq_true, beq_iff_eq, Bool.or_false] at h
  rcases h with rfl | rfl | rfl | rfl | rfl | rfl | rfl | rfl | rfl | rfl | rfl | rfl | rfl | rfl | rfl | rfl | rfl | rfl | rfl | rfl | rfl
  all_goals exact ⟨fun w => by kernel_rfl, by kernel_rfl⟩
def aggL : List (Nat × Nat) := [(50, 2), (74, 3), (76, 7), (80, 1), (86, 2), (88, 7), (106, 15), (110, 3), (114, 9), (115, 256), (121, 266), (132, 4), (134, 1), (137, 4), (139, 258), (141, 262), (143, 260), (145, 256), (147, 260), (149, 795), (172, 9), (184, 257), (199, 3), (219, 256), (227, 258), (241, 2), (268, 257), (281, 2), (283, 2), (287, 258), (290, 4), (296, 16), (309, 3), (313, 6)]
theorem ag {t n : Nat} (h : aggL.contains (t, n) = true) : AggTy Tryz.prog t n := by
  simp only [aggL, List.contains_cons, List.contains_nil, Bool.or_eq_true, beq_iff_eq, Bool.or_false, Prod.mk.injEq] at h
  rcases h with ⟨rfl, rfl⟩ | ⟨rfl, rfl⟩ | ⟨rfl, rfl⟩ | ⟨rfl, rfl⟩ | ⟨rfl, rfl⟩ | ⟨rfl, rfl⟩ | ⟨rfl, rfl⟩ | ⟨rfl, rfl⟩ | ⟨rfl, rfl⟩ | ⟨rfl, rfl⟩ | ⟨rfl, rfl⟩ | ⟨rfl, rfl⟩ | ⟨rfl, rfl⟩ | ⟨rfl, rfl⟩ | ⟨rfl, rfl⟩ | ⟨rfl, rfl⟩ | ⟨rfl, rfl⟩ | ⟨rfl, rfl⟩ | ⟨rfl, rfl⟩ | ⟨rfl, rfl⟩ | ⟨rfl, rfl⟩ | ⟨rfl, rfl⟩ | ⟨rfl, rfl⟩ | ⟨rfl, rfl⟩ | ⟨rfl, rfl⟩ | ⟨rfl, rfl⟩ | ⟨rfl, rfl⟩ | ⟨rfl, rfl⟩ | ⟨rfl, rfl⟩ | ⟨rfl, rfl⟩ | ⟨rfl, rfl⟩ | ⟨rfl, rfl⟩ | ⟨rfl, rfl⟩ | ⟨rfl, rfl⟩
  · exact AggTy.mk' Tryz.underlying50 rfl (by kernel_rfl)
  · exact AggTy.mk' Tryz.underlying74 rfl (by kernel_rfl)
  · exact AggTy.mk' Tryz.underlying76 rfl (by kernel_rfl)
  · exact AggTy.mk' Tryz.underlying80 rfl (by kernel_rfl)
  · exact AggTy.mk' Tryz.underlying86 rfl (by kernel_rfl)
  · exact AggTy.mk' Tryz.underlying88 rfl (by kernel_rfl)
  · exact AggTy.mk' Tryz.underlying106 rfl (by kernel_rfl)
  · exact AggTy.mk' Tryz.underlying110 rfl (by kernel_rfl)
  · exact AggTy.mk' Tryz.underlying114 rfl (by kernel_rfl)
  · exact AggTy.mk' Tryz.underlying115 rfl (by kernel_rfl)
  · exact AggTy.mk' Tryz.underlying121 rfl (by kernel_rfl)
  · exact AggTy.mk' Tryz.underlying132 rfl (by kernel_rfl)
  · exact AggTy.mk' Tryz.underlying134 rfl (by kernel_rfl)
  · exact AggTy.mk' Tryz.underlying137 rfl (by kernel_rfl)
  · exact AggTy.mk' Tryz.underlying139 rfl (by kernel_rfl)
  · exact AggTy.mk' Tryz.underlying141 rfl (by kernel_rfl)
  · exact AggTy.mk' Tryz.underlying143 rfl (by kernel_rfl)
  · exact AggTy.mk' Tryz.underlying145 rfl (by kernel_rfl)
  · exact AggTy.mk' Tryz.underlying147 rfl (by kernel_rfl)
  · exact AggTy.mk' Tryz.underlying149 rfl (by kernel_rfl)
  · exact AggTy.mk' Tryz.underlying172 rfl (by kernel_rfl)
  · exact AggTy.mk' Tryz.underlying184 rfl (by kernel_rfl)
  · exact AggTy.mk' Tryz.underlying199 rfl (by kernel_rfl)
  · exact AggTy.mk' Tryz.underlying219 rfl (by kernel_rfl)
  · exact AggTy.mk' Tryz.underlying227 rfl (by kernel_rfl)
  · exact AggTy.mk' Tryz.underlying241 rfl (by kernel_rfl)
  · exact AggTy.mk' Tryz.underlying268 rfl (by kernel_rfl)
  · exact AggTy.mk' Tryz.underlying281 rfl (by kernel_rfl)
  · exact AggTy.mk' Tryz.underlying283 rfl (by kernel_rfl)
  · exact AggTy.mk' Tryz.underlying287 rfl (by kernel_rfl)
  · exact AggTy.mk' Tryz.underlying290 rfl (by kernel_rfl)
  · exact AggTy.mk' Tryz.underlying296 rfl (by kernel_rfl)
  · exact AggTy.mk' Tryz.underlying309 rfl (by kernel_rfl)
  · exact AggTy.mk' Tryz.underlying313 rfl (by kernel_rfl)
theorem zr241 (w : World) : (zeroValue 241).run Tryz.prog w = .ok (.agg #[.int .i64 0, .int .i64 0]) w := by kernel_rfl
theorem one_lit {cs : List Value} (h : cs.all Value.oneCell' = true) : ∀ v ∈ cs.toArray, v.oneCell' = true := fun v hv => List.all_eq_true.1 h v (by simpa using hv)
theorem cons_eraseIdx {α : Type} : ∀ (l : List α) (i : Nat) (x : α), l[i]? = some x → (x :: l.eraseIdx i).Perm l
  | [], _, _, h => by simp at h
  | a :: l, 0, x, h => by simp at h; subst h; exact List.Perm.refl _
  | a :: l, i + 1, x, h => by
    simp only [List.getElem?_cons_succ] at h
    simp only [List.eraseIdx_cons_succ]
    exact (List.Perm.swap a x _).trans ((cons_eraseIdx l i x h).cons a)
theorem Own.front {w0 w : World} {rs : List (Nat × Array Value)} {ss : List Sl} (i : Nat) {r : Nat × Array Value} (h : Own w0 w rs ss) (hi : rs[i]? = some r) : Own w0 w (r :: rs.eraseIdx i) ss := by
  have hp := cons_eraseIdx rs i r hi
  exact ⟨⟨h.mem.below, fun p hp' => h.mem.own p (hp.mem_iff.1 hp'), fun p hp' => h.mem.rows p (hp.mem_iff.1 hp'), (hp.map _).nodup_iff.2 h.mem.apart⟩, h.sl, ((hp.map Prod.fst).append_left _).nodup_iff.2 h.apart⟩
section
variable {P : Program} {w0 w : World} {rs : List (Nat × Array Value)} {ss : List Sl} {o : Oper} {a : Act} {K : Value → World → Prop}
theorem ev_tmp {k : Nat} {v : Value} (h : a.tmps.toList[k]? = some v) : a.eval (.tmp k) = v := by
  have h' : a.tmps[k]? = some v := by rw [← Array.getElem?_toList]; exact h
  simp [Act.eval, h']
theorem eff_alloc (hm : Own w0 w rs ss) {ty : TypeId} (ho : o.op = .alloc ty) {cs : Array Value} (hz : ∀ w, (zeroValue ty).run P w = .ok (.agg cs) w)
    (h : ∀ w' g, Own w0 w' ((g, cs) :: rs) ss → K (.pointer (some ⟨g, 0, none⟩)) w') : Eff P o a w K := Eff.val (exec_alloc ho hz) (h _ _ (hm.alloc cs ty))
theorem eff_box (hm : Own w0 w rs ss) {ty : TypeId} {x : Operand} (ho : o.op = .box ty x) {cs : Array Value} (hx : a.eval x = .agg cs)
    (h : ∀ w' g, Own w0 w' ((g, cs) :: rs) ss → K (.pointer (some ⟨g, 0, none⟩)) w') : Eff P o a w K := by
  refine Eff.val (v := .pointer (some ⟨w.heap.size, 0, none⟩)) (w' := w.alloc (.cells cs ty)) ?_ (h _ _ (hm.alloc cs ty))
  unfold execOp
  simp only [ho, hx, Instr.box, Sem.run_bind, Sem.run_pure]
  rfl
theorem eff_store (i : Nat) (hm : Own w0 w rs ss) {ty : TypeId} {x y : Operand} (ho : o.op = .store ty x y) {g : Nat} (hx : a.eval x = .pointer (some ⟨g, 0, none⟩)) {vs cs : Array Value} (hy : a.eval y = .agg vs)
    (hi : rs[i]? = some (g, cs)) (ht : AggTy P ty vs.size) (hs : vs.size = cs.size) (h1 : ∀ v ∈ vs, v.oneCell' = true)
    (h : ∀ w', Own w0 w' (rs.set i (g, vs)) ss → K undef w') : Eff P o a w K := by
  have hrun := exec_store (P := P) (off := 0) ho hx hy (hm.row i hi) ht rfl (by omega) h1
  rw [splice_full cs vs hs] at hrun
  exact Eff.skip hrun (h _ (hm.setRow i vs hi))
theorem eff_storepart (i : Nat) (hm : Own w0 w rs ss) {ty : TypeId} {x y : Operand} (ho : o.op = .store ty x y) {g off : Nat} (hx : a.eval x = .pointer (some ⟨g, off, none⟩)) {vs cs ns : Array Value} (hy : a.eval y = .agg vs)
    (hi : rs[i]? = some (g, cs)) (ht : AggTy P ty vs.size) (hf : off + vs.size ≤ cs.size) (h1 : ∀ v ∈ vs, v.oneCell' = true) (hn : splice cs off vs = ns)
    (h : ∀ w', Own w0 w' (rs.set i (g, ns)) ss → K undef w') : Eff P o a w K := by
  have hrun := exec_store (P := P) (off := off) ho hx hy (hm.row i hi) ht rfl hf h1
  rw [hn] at hrun
  exact Eff.skip hrun (h _ (hm.setRow i ns hi))
theorem eff_cell (i : Nat) (hm : Own w0 w rs ss) {ty : TypeId} {x y : Operand} (ho : o.op = .store ty x y) {g off : Nat} (hx : a.eval x = .pointer (some ⟨g, off, none⟩)) {v : Value} (hy : a.eval y = v) {cs ns : Array Value}
    (hi : rs[i]? = some (g, cs)) (ht : OneTy P ty) (hf : off < cs.size) (hc : v.cells = #[v]) (h1 : v.oneCell' = true) (hn : cs.setIfInBounds off v = ns)
    (h : ∀ w', Own w0 w' (rs.set i (g, ns)) ss → K undef w') : Eff P o a w K := by
  have hh := hm.setCell i off v hi
  rw [hn] at hh
  exact Eff.skip (exec_setcell i hm ho hx hy hi ht hf hc h1) (h _ hh)
theorem eff_build1 (hm : Own w0 w rs ss) {ty e : TypeId} {q : TypeInfo} {z : Value} {bytes : Nat} {x : Operand} (ho : o.op = .buildSlice ty 1 #[(0, x)]) (he : ElTy P ty e q z bytes) {v : Value} (hx : a.eval x = v) (hv : v.cells = #[v])
    (h : ∀ w' g, Own w0 w' ((g, #[v]) :: rs) ss → K (.slice (some ⟨g, 0, none⟩) 1 1) w') : Eff P o a w K :=
  Eff.val (exec_build1 ho he hx hv) (h _ _ (hm.alloc #[v] e))
end
section
variable {P : Program} {w0 w : World} {rs : List (Nat × Array Value)} {ss : List Sl} {o : Oper} {a : Act}
theorem ld (i : Nat) (hm : Own w0 w rs ss) {ty : TypeId} {x : Operand} (ho : o.op = .load ty x) {g off : Nat} (hx : a.eval x = .pointer (some ⟨g, off, none⟩)) {cs : Array Value} {v : Value} (hi : rs[i]? = some (g, cs))
    (ht : OneTy P ty) (hv : cs[off]? = some v) : (execOp a.eval o).run P w = .ok (.value v) w := exec_loadcell' ho hx (hm.row i hi) ht hv
theorem lda (i : Nat) (hm : Own w0 w rs ss) {ty : TypeId} {x : Operand} (ho : o.op = .load ty x) {g : Nat} (hx : a.eval x = .pointer (some ⟨g, 0, none⟩)) {cs : Array Value} (hi : rs[i]? = some (g, cs)) (ht : AggTy P ty cs.size) :
    (execOp a.eval o).run P w = .ok (.value (.agg cs)) w := exec_load_all ho hx (hm.row i hi) ht
theorem ldp (i : Nat) (hm : Own w0 w rs ss) {ty : TypeId} {x : Operand} (ho : o.op = .load ty x) {g off : Nat} (hx : a.eval x = .pointer (some ⟨g, off, none⟩)) {cs vs : Array Value} (hi : rs[i]? = some (g, cs)) (hv : cs.extract off (off + vs.size) = vs) (ht : AggTy P ty vs.size) (hf : off + vs.size ≤ cs.size) :
    (execOp a.eval o).run P w = .ok (.value (.agg vs)) w := by
  have h := exec_load (P := P) (off := off) ho hx (hm.row i hi) ht hf
  rwa [hv] at h
end
end Go.Proofs.YtkpbhdhkdonghaaGreat

namespace Go.Proofs.YtkpbhdhkdonghaaGreat
open Go Go.RowKit
section
variable {P : Program} {ops : Array Oper} {Q : Exit → Act → World → Prop} {rest : List Oper} {a : Act} {w : World} {dst : Option Tmp} {ty : TypeId} {pos : String} {af : Array Edge} {g : Option (Nat × Bool)}
theorem gLd {t : TypeId} {x : Operand} (h : wpList P ops Q (⟨dst, .load t x, ty, pos, af, g⟩ :: rest) a w) : wpList P ops Q (⟨dst, .load t x, ty, pos, af, g⟩ :: rest) a w := h
theorem gSt {t : TypeId} {x : Operand} {y : Operand} (h : wpList P ops Q (⟨dst, .store t x y, ty, pos, af, g⟩ :: rest) a w) : wpList P ops Q (⟨dst, .store t x y, ty, pos, af, g⟩ :: rest) a w := h
theorem gAl {t : TypeId} (h : wpList P ops Q (⟨dst, .alloc t, ty, pos, af, g⟩ :: rest) a w) : wpList P ops Q (⟨dst, .alloc t, ty, pos, af, g⟩ :: rest) a w := h
theorem gBx {t : TypeId} {x : Operand} (h : wpList P ops Q (⟨dst, .box t x, ty, pos, af, g⟩ :: rest) a w) : wpList P ops Q (⟨dst, .box t x, ty, pos, af, g⟩ :: rest) a w := h
theorem gMs {t : TypeId} {x : Operand} {y : Operand} (h : wpList P ops Q (⟨dst, .makeSlice t x y, ty, pos, af, g⟩ :: rest) a w) : wpList P ops Q (⟨dst, .makeSlice t x y, ty, pos, af, g⟩ :: rest) a w := h
theorem gIa {t : TypeId} {x : Operand} {y : Operand} (h : wpList P ops Q (⟨dst, .indexAddr t x y, ty, pos, af, g⟩ :: rest) a w) : wpList P ops Q (⟨dst, .indexAddr t x y, ty, pos, af, g⟩ :: rest) a w := h
theorem gBo {b : BinOp} {t : TypeId} {x : Operand} {y : Operand} {u : TypeId} (h : wpList P ops Q (⟨dst, .binOp b t x y u, ty, pos, af, g⟩ :: rest) a w) : wpList P ops Q (⟨dst, .binOp b t x y u, ty, pos, af, g⟩ :: rest) a w := h
end
end Go.Proofs.YtkpbhdhkdonghaaGreat

namespace Go.Proofs.YtkpbhdhkdonghaaGreat
open Go Go.RowKit
def tab (n : Nat) (f : Nat → Int) : List Int := (List.range n).map f
theorem len_tab (n : Nat) (f : Nat → Int) : (tab n f).length = n := by simp [tab]
theorem gi_tab {n : Nat} (f : Nat → Int) {i : Nat} (h : i < n) : gi (tab n f) i = f i := by simp [gi, tab, h]
theorem tab_congr {n : Nat} {f g : Nat → Int} (h : ∀ i, i < n → f i = g i) : tab n f = tab n g := List.map_congr_left fun i hi => h i (List.mem_range.1 hi)
theorem set_tab {n : Nat} (f : Nat → Int) (i : Nat) (v : Int) : (tab n f).set i v = tab n fun j => if j = i then v else f j := by
  apply List.ext_getElem?
  intro j
  rw [List.getElem?_set]
  simp only [tab, List.getElem?_map, List.length_map, List.length_range]
  by_cases hj : j < n
  · rw [List.getElem?_range hj]
    by_cases e : i = j
    · subst e; simp [hj]
    · rw [if_neg e]; simp [show ¬ j = i from fun h => e h.symm]
  · rw [List.getElem?_eq_none (by simpa using hj)]
    by_cases e : i = j
    · subst e; simp [hj]
    · rw [if_neg e]; simp
theorem tab_zeros (n : Nat) : List.replicate n (0 : Int) = tab n fun _ => 0 := by
  apply List.ext_getElem?
  intro j
  simp [tab, List.getElem?_replicate]
  by_cases h : j < n
  · simp [h]
  · simp [h]
    try omega
theorem J_tab (k : IntKind) {n : Nat} (f g : Nat → Int) (i : Nat) (v : Int) (h : ∀ j, j < n → (if j = i then v else f j) = g j) : (J k (tab n f)).setIfInBounds i (.int k v) = J k (tab n g) := by
  rw [set_J, set_tab, tab_congr h]
theorem at_tab (k : IntKind) {n : Nat} (f : Nat → Int) {i : Nat} (h : i < n) : (J k (tab n f))[i]? = some (.int k (f i)) := by rw [at_J k _ i (by rw [len_tab]; exact h), gi_tab f h]
def eqn (l : List Int) (c : Nat) : Int := (l.countP fun x : Int => decide (x = (c : Int)) : Nat)
def lsn (l : List Int) (c : Nat) : Int := (l.countP fun x : Int => decide (x < (c : Int)) : Nat)
theorem eqn_snoc (l : List Int) (k : Nat) (h : k < l.length) (c : Nat) : eqn (l.take (k + 1)) c = eqn (l.take k) c + if gi l k = c then 1 else 0 := by
  rw [eqn, take_snoc_gi l k h, List.countP_append, eqn, List.countP_singleton]
  by_cases e : gi l k = c <;> simp [e]
theorem eqn_bound (l : List Int) (c : Nat) : 0 ≤ eqn l c ∧ eqn l c ≤ l.length := by
  have := List.countP_le_length (p := fun x : Int => decide (x = c)) (l := l)
  rw [eqn]; omega
theorem lsn_bound (l : List Int) (c : Nat) : 0 ≤ lsn l c ∧ lsn l c ≤ l.length := by
  have := List.countP_le_length (p := fun x : Int => decide (x < c)) (l := l)
  rw [lsn]; omega
theorem lsn_step (l : List Int) (c : Nat) : lsn l (c + 1) = eqn l c + lsn l c := by
  induction l with
  | nil => rfl
  | cons a l ih =>
    simp only [lsn, eqn, List.countP_cons] at *
    generalize l.countP (fun x : Int => decide (x < ((c + 1 : Nat) : Int))) = p at *
    generalize l.countP (fun x : Int => decide (x = (c : Int))) = q at *
    generalize l.countP (fun x : Int => decide (x < (c : Int))) = r at *
    simp only [decide_eq_true_eq]
    by_cases h1 : a = c
    · rw [if_pos h1, if_pos (by omega), if_neg (by omega)]; omega
    · rw [if_neg h1]
      by_cases h2 : a < c
      · rw [if_pos h2, if_pos (by omega)]; omega
      · rw [if_neg h2, if_neg (by omega)]; omega
def aft (l : List Int) (k : Nat) : Int := 1 + lsn l (gi l k).toNat + eqn (l.take k) (gi l k).toNat
def colp (index row : Nat) : Nat := if index < row then row - 1 else row
end Go.Proofs.YtkpbhdhkdonghaaGreat

namespace Go.Proofs.YtkpbhdhkdonghaaGreat
open Go Go.RowKit
theorem exec_make {P : Program} {w : World} {o : Oper} {a : Act} (n : Nat) {t e : TypeId} {i : TypeInfo} {z : Value} {bytes : Nat} {x y : Operand}
    (ho : o.op = .makeSlice t x y) (he : ElTy P t e i z bytes) (hx : a.eval x = .int .i64 n) (hy : a.eval y = .int .i64 n) (hb : (bytes : Int) * n ≤ 281474976710656) (hn : (n : Int) ≤ 9223372036854775807) :
    (execOp a.eval o).run P w = .ok (.value (.slice (some ⟨w.heap.size, 0, none⟩) n n)) (w.alloc (.cells (List.replicate n z).toArray e)) := by
  have hr := run_make (P := P) w t e i z he.under he.info he.zero .i64 .i64 n n (by omega) (Int.le_refl _) (by rw [he.bytes]; exact hb) hn
  have hc : madeCells #[z] n = (List.replicate n z).toArray := by
    apply Array.ext
    · simp [madeCells]
    · intro i h1 h2
      have e : i % 1 = 0 := Nat.mod_one i
      simp [madeCells, e]
  unfold execOp
  rw [he.cell, he.size, Nat.mul_one, Int.toNat_natCast, hc] at hr
  simp only [ho, hx, hy, Sem.run_bind, hr, Result.andThen_ok, Sem.run_pure]
theorem wpList_make_o {P : Program} {ops : Array Oper} {rest : List Oper} {o : Oper} {a : Act} {w0 w : World} {Q : Exit → Act → World → Prop} {rs : List (Nat × Array Value)} {ss : List Sl} (n : Nat) (hm : Own w0 w rs ss) (hgd : Region.wanted o (yielded ops a.tmps) = true) {t e : TypeId} {i : TypeInfo} {z : Value} {bytes : Nat} {x y : Operand}
    (ho : o.op = .makeSlice t x y) (he : ElTy P t e i z bytes) (hx : a.eval x = .int .i64 n) (hy : a.eval y = .int .i64 n) (hb : (bytes : Int) * n ≤ 281474976710656) (hn : (n : Int) ≤ 9223372036854775807)
    (h : ∀ w' g, Own w0 w' ((g, (List.replicate n z).toArray) :: rs) ss → wpList P ops Q rest (a.put o.dst (.slice (some ⟨g, 0, none⟩) n n)) w') : wpList P ops Q (o :: rest) a w :=
  wpList_run hgd (exec_make n ho he hx hy hb hn) (h _ _ (hm.alloc _ e))
end Go.Proofs.YtkpbhdhkdonghaaGreat
