/-
  The walks of math/bits.Mul64 and Mul at a factor of one, and of bytes.Repeat at a slice of one byte.
-/
import Derived.Test.YtaccjnekonmkoaaSlc
import Derived.Test.YtaccjnekonmkoaaZrD
import Derived.Test.YtaccjnekonmkoaaSt
import Derived.Lib.MakeNoZero
import Derived.Deep.CutRange
import Derived.Test.YtaccjnekonmkoaaMtfB
namespace Go.Proofs.Ytaccjnekonmkoaa
open Go Go.RowKit

theorem mask_u64 (q : Nat) (hq : q < 2 ^ 32) : bits .and .u64 (q : Int) 4294967295 = (q : Int) := by
  have h1 : (BitVec.ofInt 64 (q : Int)).toNat = q := by
    rw [BitVec.ofInt_natCast, BitVec.toNat_ofNat]; exact Nat.mod_eq_of_lt (by omega)
  have h2 : (BitVec.ofInt 64 (4294967295 : Int)).toNat = 4294967295 := rfl
  show IntKind.u64.wrap ((BitVec.ofInt 64 (q : Int) &&& BitVec.ofInt 64 (4294967295 : Int)).toNat : Int) = _
  have h3 : q &&& 4294967295 = q := by
    have := Nat.and_two_pow_sub_one_eq_mod q 32
    rw [show (4294967295 : Nat) = 2 ^ 32 - 1 from rfl, this, Nat.mod_eq_of_lt hq]
  rw [BitVec.toNat_and, h1, h2, h3]
  exact IntWalk.u64_in _ (by omega)
set_option maxRecDepth 100000 in
set_option maxHeartbeats 1000000 in
theorem mul64_one (k : Nat) (hk : k < 2 ^ 32) (w : World) : Calls Try.prog 79 #[.int .u64 1, .int .u64 k] w fun e w' => e = .returned (.tuple #[.int .u64 0, .int .u64 k]) ∧ Below w.heap.size w w' := by
  have m1 : bits .and .u64 1 4294967295 = 1 := mask_u64 1 (by omega)
  have m2 := mask_u64 k hk
  have m3 : bits .and .u64 0 4294967295 = 0 := mask_u64 0 (by omega)
  have v1 : IntKind.u64.wrap (k : Int) = k := IntWalk.u64_in _ (by omega)
  have v0 : IntKind.u64.wrap (0 : Int) = 0 := IntWalk.u64_in _ (by omega)
  have d1 : (k : Int) / 4294967296 = 0 := by omega
  have hkk : (k : Int) < 4294967296 := by omega
  go_enter Try.func79, Try.ntmps79
  have hm := Own.nil w
  go_wp2_with fail
  go_ret2
  exact ⟨rfl, hm.below⟩
set_option maxRecDepth 100000 in
set_option maxHeartbeats 1000000 in
theorem mul_one_ (k : Nat) (hk : k < 2 ^ 32) (w : World) : Calls Try.prog 76 #[.int .u64 1, .int .u64 k] w fun e w' => e = .returned (.tuple #[.int .u64 0, .int .u64 k]) ∧ Below w.heap.size w w' := by
  go_enter Try.func76, Try.ntmps76
  have hm := Own.nil w
  go_wp2_with (first
    | (go_at_call 79; have _t := hm; refine (mul64_one k hk _).mono ?_; rintro e w1 ⟨rfl, hb1⟩; have hm1 := hm.call hb1; clear hm))
  go_ret2
  exact ⟨rfl, hm1.below⟩
theorem exec_copy {P : Program} {w : World} {o : Oper} {a : Act} {x y : Operand} {t t' elem : TypeId}
    (ho : o.op = .call { callee := .builtin .copy, args := #[x, y], argTypes := #[t, t'] }) (hu : P.underlying t = some (.slice elem)) (hs : (P.info? elem).map (·.size) = some 1)
    {g off dLen dCap : Nat} (hx : a.eval x = .slice (some ⟨g, off, none⟩) dLen dCap) {A : Addr} {sLen sCap : Nat} (hy : a.eval y = .slice (some A) sLen sCap)
    {cs : Array Value} {xs : List Value} (hg : RowIs w g cs) (hn : xs.length = Nat.min sLen dLen) (hc : ∀ j v, xs[j]? = some v → w.cell? (A.add j) = some v) (hfit : off + xs.length ≤ cs.size) (h1 : ∀ v ∈ xs, v.oneCell' = true) :
    (execOp a.eval o).run P w = .ok (.value (.int .i64 xs.length)) (w.setRow g (splice cs off xs.toArray)) := by
  obtain ⟨tt, hg⟩ := hg
  have hrun := run_copy_row P w t t' o.type elem g off dLen dCap A sLen sCap cs tt xs hu hs hg hn hc hfit h1
  have e : (cs.toList.take off ++ xs ++ cs.toList.drop (off + xs.length)).toArray = splice cs off xs.toArray := by simp [splice]
  rw [e] at hrun
  unfold execOp
  simp only [ho, resolve, invoke, builtin, Sem.run_bind, Sem.run_pure, Result.andThen_ok, List.map_toArray, List.map_cons, List.map_nil, hx, hy, hrun, goInt]
theorem take_splice {cs : Array Value} {bp m : Nat} {v : Value} (h : cs.toList.take bp = List.replicate bp v) : (splice cs bp (List.replicate m v).toArray).toList.take (bp + m) = List.replicate (bp + m) v := by
  have h1 : (splice cs bp (List.replicate m v).toArray).toList = List.replicate (bp + m) v ++ cs.toList.drop (bp + m) := by
    simp only [splice, h, List.replicate_append_replicate, List.size_toArray, List.length_replicate]
  rw [h1, List.take_left' (by simp)]
theorem size_splice {cs : Array Value} {bp m : Nat} {v : Value} (h : bp + m ≤ cs.size) : (splice cs bp (List.replicate m v).toArray).size = cs.size := by
  simp [splice]; omega
theorem get_take {cs : Array Value} {bp j : Nat} {v : Value} (h : cs.toList.take bp = List.replicate bp v) (hj : j < bp) : cs[j]? = some v := by
  have h2 : (cs.toList.take bp)[j]? = some v := by rw [h]; simp [hj]
  rw [List.getElem?_take, if_pos hj, Array.getElem?_toList] at h2
  exact h2
/-- What is owed of bytes handed back: they lie in a block of the call's own. -/
def BytesPost (w : World) (l : List Int) (x : Ending) (w' : World) : Prop := (∃ g cells, x = .returned (.slice (some ⟨g, 0, none⟩) l.length l.length) ∧ RowIs w' g cells ∧ w.heap.size ≤ g ∧ cells.toList.take l.length = vs .u8 l) ∧ Below w.heap.size w w'
set_option maxRecDepth 100000 in
set_option maxHeartbeats 1000000 in
theorem repeat_none (A : Addr) (cp : Nat) (w : World) : Calls Try.prog 75 #[.slice (some A) 1 cp, .int .i64 0] w (BytesPost w []) := by
  go_enter Try.func75, Try.ntmps75
  have hm := Own.nil w
  go_wp2_with fail
  go_ret
  have hm1 := hm.alloc #[] 5
  exact ⟨⟨_, _, rfl, hm1.row 0 rfl, Nat.le_refl _, rfl⟩, hm1.below⟩
theorem exec_mnz {o : Oper} {a : Act} {w : World} {x : Operand} {ts : Array TypeId} (ho : o.op = .call { callee := .value (.func 77), args := #[x], argTypes := ts }) {n : Nat} (hx : a.eval x = .int .i64 n) (hn : n ≤ 281474976710656) :
    ∃ cs : Array Value, (execOp a.eval o).run Try.prog w = .ok (.value (.slice (some ⟨w.heap.size, 0, none⟩) n cs.size)) (w.drew.drew.alloc (.cells cs 5)) ∧ n ≤ cs.size := by
  obtain ⟨cs, hr, h1, _⟩ := Lib.run_makeNoZero (P := Try.prog) w #[3] 24 5 Try.underlying24 n hn
  refine ⟨cs, ?_, h1⟩
  have hf : a.eval (Operand.func 77) = .func (.func 77) #[] #[] := rfl
  unfold execOp
  simp only [ho, resolve, invoke, Sem.run_bind, List.map_toArray, List.map_cons, List.map_nil, hx, hf]
  simp [go_sem, run_callFunc_extern Try.func77 (by kernel_rfl) (by kernel_rfl) (by kernel_rfl) (e := Extern.BytealgMakeNoZero.makeNoZero #[3] #[24]) (by kernel_rfl), hr]
theorem run_sub3 {P : Program} {w : World} {t e : TypeId} {i : TypeInfo} {z : Value} {bytes : Nat} (he : ElTy P t e i z bytes) {ad : Option Addr} {n c h : Nat} {q1 q2 : IntKind} (h2 : h ≤ c) :
    (Instr.sliceAt t (.slice ad n c) none (some (.int q1 h)) (some (.int q2 h))).run P w = .ok (.slice (subAt ad h 0) h h) w := by
  have hh0 : (0 : Int) ≤ h := by omega
  have hhc : (h : Int) ≤ c := by omega
  unfold Instr.sliceAt
  rw [Sem.run_bind, run_underlying he.under]
  simp only [Result.andThen_ok]
  unfold Instr.slice
  rw [Sem.run_bind, run_underlying he.under]
  simp only [Result.andThen_ok]
  simp [Instr.sliceBounds, Instr.sliceBound, asIntOf, sizeOf, typeInfo, he.info, subAt, h2, Result.andThen]
theorem exec_sub3 {P : Program} {w : World} {o : Oper} {a : Act} {t e : TypeId} {i : TypeInfo} {z : Value} {bytes : Nat} {x y u : Operand} (ho : o.op = .slice t x none (some y) (some u)) (he : ElTy P t e i z bytes) {ad : Option Addr} {n c : Nat} (hx : a.eval x = .slice ad n c) {h : Nat} (hy : a.eval y = .int .i64 h) (hu : a.eval u = .int .i64 h) (h2 : h ≤ c) :
    (execOp a.eval o).run P w = .ok (.value (.slice (subAt ad h 0) h h)) w := by
  unfold execOp
  simp only [ho, hx, hy, hu, Sem.run_bind, Option.map_none, Option.map_some, run_sub3 he h2, Result.andThen_ok, Sem.run_pure]
theorem subAt_zero (g h : Nat) : subAt (some ⟨g, 0, none⟩) h 0 = some ⟨g, 0, none⟩ := by
  unfold subAt
  split
  · rfl
  · simp [Addr.add_lit]
theorem subAt_mid (g h i : Nat) (hi : i < h) : subAt (some ⟨g, 0, none⟩) h i = some ⟨g, i, none⟩ := by
  unfold subAt
  rw [if_neg (by omega)]
  simp [Addr.add_lit]
theorem cell_row {w : World} {g : Nat} {cs : Array Value} (h : RowIs w g cs) (k : Nat) {v : Value} (e : cs[k]? = some v) : w.cell? ((⟨g, 0, none⟩ : Addr).add k) = some v := by
  rw [Addr.add_lit, Nat.zero_add, h.cell, e]
theorem ord_runl {P : Program} {ops : Array Oper} {Q : Exit → Act → World → Prop} {i : Nat} {r : List (Nat × Bool)} {S : World → Prop} {a : Act} {w w' : World} {o : Oper} {v : Value} (ho : ops.toList[i]? = some o) (hw : Region.wanted o (yielded ops a.tmps) = true)
    (hrun : (execOp a.eval o).run P w = .ok (.value v) w') (hS : S w') (h : wpOrd P ops Q r S (a.put o.dst v) w') : wpOrd P ops Q ((i, false) :: r) S a w :=
  ord_run (by rw [← Array.getElem?_toList]; exact ho) hw hrun hS h
theorem wpList_val' {P : Program} {ops : Array Oper} {rest : List Oper} {o : Oper} {a : Act} {w : World} {Q : Exit → Act → World → Prop} {v : Value} (hg : Region.wanted o (yielded ops a.tmps) = true)
    (hrun : (execOp a.eval o).run P w = .ok (.value v) w) (h : wpList P ops Q rest (a.put o.dst v) w) : wpList P ops Q (o :: rest) a w := wpList_run hg hrun h
theorem wpList_mnz {ops : Array Oper} {rest : List Oper} {o : Oper} {a : Act} {w w0 : World} {Q : Exit → Act → World → Prop} {rs : List (Nat × Array Value)} {ss : List Sl} (hm : Own w0 w rs ss) (hg : Region.wanted o (yielded ops a.tmps) = true) {x : Operand} {ts : Array TypeId} (ho : o.op = .call { callee := .value (.func 77), args := #[x], argTypes := ts }) {n : Nat} (hx : a.eval x = .int .i64 n) (hn : n ≤ 281474976710656)
    (h : ∀ w' g cs, n ≤ cs.size → Own w0 w' ((g, cs) :: rs) ss → wpList Try.prog ops Q rest (a.put o.dst (.slice (some ⟨g, 0, none⟩) n cs.size)) w') : wpList Try.prog ops Q (o :: rest) a w := by
  obtain ⟨cs, hr, hN⟩ := exec_mnz ho hx hn
  exact wpList_run hg hr (h _ _ cs hN ((hm.call ((Below.refl w.heap.size w).drew.drew)).alloc cs 5))
theorem Own.callRow {w0 w w' : World} {rs : List (Nat × Array Value)} {ss : List Sl} (h : Own w0 w rs ss) (hb : Below w.heap.size w w') {g : Nat} {cells : Array Value} (hr : RowIs w' g cells) (hg : w.heap.size ≤ g) : Own w0 w' ((g, cells) :: rs) ss := by
  have h' := h.call hb
  refine ⟨⟨h'.mem.below, ?_, ?_, ?_⟩, h'.sl, ?_⟩
  · intro p hp
    rcases List.mem_cons.1 hp with rfl | hp
    · exact Nat.le_trans h.below.size hg
    · exact h'.mem.own p hp
  · intro p hp
    rcases List.mem_cons.1 hp with rfl | hp
    · exact hr
    · exact h'.mem.rows p hp
  · rw [List.map_cons, List.nodup_cons]
    refine ⟨fun hm => ?_, h'.mem.apart⟩
    obtain ⟨p, hp, e⟩ := List.mem_map.1 hm
    have := (h.mem.rows p hp).lt
    omega
  · rw [List.map_cons, List.nodup_append]
    obtain ⟨h1, h2, h3⟩ := List.nodup_append.1 h.apart
    refine ⟨h1, ?_, ?_⟩
    · rw [List.nodup_cons]
      refine ⟨fun hm => ?_, h2⟩
      obtain ⟨p, hp, e⟩ := List.mem_map.1 hm
      have := (h.mem.rows p hp).lt
      omega
    · intro a ha b hb2
      rcases List.mem_cons.1 hb2 with rfl | hb2
      · have := (h.slLt a ha).2; omega
      · exact h3 a ha b hb2
theorem row_hold {w : World} {g : Nat} {cells : Array Value} {l : List Int} (h : RowIs w g cells) (ht : cells.toList.take l.length = vs .u8 l) : ∀ j u, (vs .u8 l)[j]? = some u → w.cell? ((⟨g, 0, none⟩ : Addr).add j) = some u := by
  intro j u hj
  rw [← ht, List.getElem?_take] at hj
  split at hj
  · exact cell_row h j (by rw [← Array.getElem?_toList]; exact hj)
  · cases hj
theorem list_rep {α : Type} {n j : Nat} {v u : α} (h : (List.replicate n v)[j]? = some u) : u = v ∧ j < n := by
  obtain ⟨h1, h2⟩ := List.getElem?_eq_some_iff.1 h
  rw [List.length_replicate] at h1
  exact ⟨by rw [← h2]; simp, h1⟩
set_option maxRecDepth 100000 in
set_option maxHeartbeats 4000000 in
theorem repeat_small (c : Int) (A : Addr) (cp k : Nat) (w : World) (hk0 : 0 < k) (hk : k ≤ 65536) (hA : w.cell? A = some (.int .u8 c)) (hs : ¬ 8192 < k) : Calls Try.prog 75 #[.slice (some A) 1 cp, .int .i64 k] w (BytesPost w (List.replicate k c)) := by
  have n1 : ((k : Int) == 0) = false := by simp; omega
  have n2 : ¬ (k : Int) = 0 := by omega
  have n3 : ¬ (k : Int) < 0 := by omega
  have v1 : IntKind.u64.wrap (k : Int) = k := IntWalk.u64_in _ (by omega)
  have v2 : IntKind.u64.wrap (1 : Int) = 1 := IntWalk.u64_in _ (by omega)
  have v3 : IntKind.i64.wrap (k : Int) = k := IntWalk.i64_in _ (by omega)
  have n4 : decide ((9223372036854775807 : Int) < k) = false := decide_eq_false (by omega)
  have b1 : ¬ (8192 : Int) < k := by omega
  have b2 : decide ((8192 : Int) < k) = false := decide_eq_false b1
  clear hs
  have HA := Lib.hid hA
  clear hA
  obtain ⟨i5, hE⟩ := el24
  have HE := Lib.hid hE
  clear hE
  go_enter Try.func75, Try.ntmps75
  have hm := Own.nil w
  go_upto_region 16 with (first
    | (go_at_call 76; have _t := hm; refine (mul_one_ k (by omega) _).mono ?_; rintro e w1 ⟨rfl, hb1⟩; have hm1 := hm.call hb1; clear hm))
  apply wp_region_lit
  refine wpList_val' rfl (by go_simp; rfl) ?_
  simp only [Act.put, List.setIfInBounds_toArray, List.set_cons_zero, List.set_cons_succ]
  refine wpList_mnz hm1 rfl rfl (n := k) rfl (by omega) ?_
  intro w2 g cs hN hm2
  clear hm1
  try simp only [Act.put, List.setIfInBounds_toArray, List.set_cons_zero, List.set_cons_succ]
  refine wpList_val' rfl (by go_simp; rfl) ?_
  simp only [Act.put, List.setIfInBounds_toArray, List.set_cons_zero, List.set_cons_succ]
  refine wpList_val' rfl (by go_simp; rfl) ?_
  simp only [Act.put, List.setIfInBounds_toArray, List.set_cons_zero, List.set_cons_succ]
  refine wpList_run rfl (exec_sub3 rfl HE.out rfl rfl rfl hN) ?_
  rw [subAt_zero]
  simp only [Act.put, List.setIfInBounds_toArray, List.set_cons_zero, List.set_cons_succ]
  refine wpList_val' rfl (by go_simp; rfl) ?_
  simp only [Act.put, List.setIfInBounds_toArray, List.set_cons_zero, List.set_cons_succ]
  refine wpList_nil ?_
  go_simp
  have hcp : ∀ (cells : Array Value) (W : World), Own w W [(g, cells)] [] → ∀ j u, [Value.int .u8 c][j]? = some u → W.cell? (A.add j) = some u := by
    intro cells W hW j u hj
    match j with
    | 0 =>
      simp at hj
      subst hj
      rw [Addr.add_zero']
      exact (hW.below.cell (block_lt_of_cell HA.out)).trans HA.out
    | j + 1 => simp at hj
  go_wp2_with (first
    | (refine wpList_run rfl (exec_copy (xs := [.int .u8 c]) rfl Try.underlying24 sz5 rfl rfl (hm2.row 0 rfl) (by simp [Nat.min_def]; omega) (hcp cs _ hm2) (by simp only [List.length_cons, List.length_nil]; omega) (one_list _ rfl)) ?_; have hm3 := hm2.setRow 0 (splice cs 0 [Value.int .u8 c].toArray) rfl; simp only [List.set] at hm3; clear hm2))
  have hsz := size_splice (cs := cs) (bp := 0) (m := 1) (v := .int .u8 c) (by omega)
  have htk := take_splice (cs := cs) (bp := 0) (m := 1) (v := .int .u8 c) rfl
  go_loopw [10] (fun u wr => ∃ (bp : Nat) (cells : Array Value), 1 ≤ bp ∧ bp ≤ k ∧ u = .int .i64 bp ∧ k ≤ cells.size ∧ Hid (cells.toList.take bp = List.replicate bp (.int .u8 c)) ∧ Own w wr [(g, cells)] []) (fun u _ => k - (intOf u).toNat)
  case atStart => exact ⟨1, _, by omega, by omega, rfl, by rw [hsz]; exact hN, htk, hm3⟩
  case round =>
    obtain ⟨bp, cells, h1, hbk, rfl, hN2, HT, hmr⟩ := hrel
    clear hm3 hsz htk
    by_cases hlt : bp < k
    · have q1 : ¬ (k : Int) < bp := by omega
      go_wp2_with fail
      obtain ⟨m, hmm⟩ : ∃ m, m = Nat.min bp (k - bp) := ⟨_, rfl⟩
      have hm0 : 1 ≤ m ∧ m ≤ bp ∧ m ≤ k - bp := by rw [hmm]; simp only [Nat.min_def]; split <;> omega
      have HMM := Lib.hid hmm
      clear hmm
      have hwm : IntKind.i64.wrap ((bp : Int) + (m : Int)) = (bp : Int) + m := IntWalk.i64_in _ (by omega)
      have hS8 : Below w.heap.size w { wr with drawn := wr.drawn + 1 } := (hmr.drawn (wr.drawn + 1)).below
      refine wp_region_ord [(0, true), (1, true), (2, true), (3, true), (4, true), (5, true), (6, true), (7, false), (8, true), (9, true)] (fun W => Below w.heap.size w W) rfl (by kernel_rfl) rfl (by kernel_rfl) (fun _ _ d _ _ h => by cases d <;> exact h) hS8 ?_
      have hn := hmr.drawn (wr.drawn + 1)
      clear hS8
      generalize ({ wr with drawn := wr.drawn + 1 } : World) = wn at hn ⊢
      clear hmr
      refine ord_readl rfl rfl (fun W hW => by go_simp; rfl) ?_
      simp only [Act.put, List.setIfInBounds_toArray, List.set_cons_zero, List.set_cons_succ]
      refine ord_readl rfl rfl (fun W hW => by go_simp; rfl) ?_
      simp only [Act.put, List.setIfInBounds_toArray, List.set_cons_zero, List.set_cons_succ]
      refine ord_readl rfl rfl (fun W hW => by go_simp; rfl) ?_
      simp only [Act.put, List.setIfInBounds_toArray, List.set_cons_zero, List.set_cons_succ]
      refine ord_readl rfl rfl (fun W hW => exec_sub rfl HE.out rfl (.inr ⟨_, rfl⟩) (.inl ⟨rfl, rfl⟩) hbk (Nat.le_refl _)) ?_
      rw [subAt_mid g k bp hlt]
      simp only [Act.put, List.setIfInBounds_toArray, List.set_cons_zero, List.set_cons_succ]
      refine ord_readl rfl rfl (fun W hW => by go_simp; rfl) ?_
      simp only [Act.put, List.setIfInBounds_toArray, List.set_cons_zero, List.set_cons_succ]
      refine ord_readl rfl rfl (fun W hW => by go_simp; rfl) ?_
      simp only [Act.put, List.setIfInBounds_toArray, List.set_cons_zero, List.set_cons_succ]
      refine ord_readl rfl rfl (fun W hW => exec_sub (l := 0) (h := bp) rfl HE.out rfl (.inl ⟨rfl, rfl⟩) (.inr ⟨_, rfl⟩) (Nat.zero_le _) (by omega)) ?_
      rw [subAt_zero]
      simp only [Act.put, List.setIfInBounds_toArray, List.set_cons_zero, List.set_cons_succ]
      have hm4 := hn.setRow 0 (splice cells bp (List.replicate m (Value.int .u8 c)).toArray) rfl
      simp only [List.set] at hm4
      refine ord_runl rfl rfl (exec_copy (xs := List.replicate m (.int .u8 c)) rfl Try.underlying24 sz5 rfl rfl (hn.row 0 rfl) (by rw [List.length_replicate, HMM.out]; try rfl) (fun j u hj => by obtain ⟨rfl, hjm⟩ := list_rep hj; exact cell_row (hn.row 0 rfl) j (get_take HT.out (by omega))) (by rw [List.length_replicate]; omega) (fun u hu => by rw [List.eq_of_mem_replicate hu]; rfl)) hm4.below ?_
      rw [List.length_replicate]
      simp only [Act.put, List.setIfInBounds_toArray, List.set_cons_zero, List.set_cons_succ]
      refine ord_readl rfl rfl (fun W hW => by go_simp; rfl) ?_
      simp only [Act.put, List.setIfInBounds_toArray, List.set_cons_zero, List.set_cons_succ]
      refine ord_readl rfl rfl (fun W hW => by go_simp; rfl) ?_
      simp only [Act.put, List.setIfInBounds_toArray, List.set_cons_zero, List.set_cons_succ]
      refine ord_nil ?_
      have hts := take_splice (m := m) HT.out
      have hss := size_splice (cs := cells) (bp := bp) (m := m) (v := .int .u8 c) (by omega)
      clear hn HMM
      go_simp
      go_wp2
      go_roundw
      case rel => exact ⟨bp + m, _, by omega, by omega, by go_num, by rw [hss]; exact hN2, hts, hm4⟩
      case measure => simp [intOf]; omega
    · obtain rfl : k = bp := by omega
      go_wp2_with fail
      go_ret
      exact ⟨⟨g, cells, by rw [List.length_replicate]; rfl, hmr.row 0 rfl, hmr.mem.own _ (List.mem_cons_self ..), by rw [List.length_replicate, HT.out]; simp [vs]⟩, hmr.below⟩
set_option maxRecDepth 100000 in
set_option maxHeartbeats 4000000 in
theorem repeat_big (c : Int) (A : Addr) (cp k : Nat) (w : World) (hk0 : 0 < k) (hk : k ≤ 65536) (hA : w.cell? A = some (.int .u8 c)) (hs : 8192 < k) : Calls Try.prog 75 #[.slice (some A) 1 cp, .int .i64 k] w (BytesPost w (List.replicate k c)) := by
  have n1 : ((k : Int) == 0) = false := by simp; omega
  have n2 : ¬ (k : Int) = 0 := by omega
  have n3 : ¬ (k : Int) < 0 := by omega
  have v1 : IntKind.u64.wrap (k : Int) = k := IntWalk.u64_in _ (by omega)
  have v2 : IntKind.u64.wrap (1 : Int) = 1 := IntWalk.u64_in _ (by omega)
  have v3 : IntKind.i64.wrap (k : Int) = k := IntWalk.i64_in _ (by omega)
  have n4 : decide ((9223372036854775807 : Int) < k) = false := decide_eq_false (by omega)
  have b1 : (8192 : Int) < k := by omega
  have b2 : decide ((8192 : Int) < k) = true := decide_eq_true b1
  have HA := Lib.hid hA
  clear hA
  obtain ⟨i5, hE⟩ := el24
  have HE := Lib.hid hE
  clear hE
  go_enter Try.func75, Try.ntmps75
  have hm := Own.nil w
  go_upto_region 16 with (first
    | (go_at_call 76; have _t := hm; refine (mul_one_ k (by omega) _).mono ?_; rintro e w1 ⟨rfl, hb1⟩; have hm1 := hm.call hb1; clear hm))
  apply wp_region_lit
  refine wpList_val' rfl (by go_simp; rfl) ?_
  simp only [Act.put, List.setIfInBounds_toArray, List.set_cons_zero, List.set_cons_succ]
  refine wpList_mnz hm1 rfl rfl (n := k) rfl (by omega) ?_
  intro w2 g cs hN hm2
  clear hm1
  try simp only [Act.put, List.setIfInBounds_toArray, List.set_cons_zero, List.set_cons_succ]
  refine wpList_val' rfl (by go_simp; rfl) ?_
  simp only [Act.put, List.setIfInBounds_toArray, List.set_cons_zero, List.set_cons_succ]
  refine wpList_val' rfl (by go_simp; rfl) ?_
  simp only [Act.put, List.setIfInBounds_toArray, List.set_cons_zero, List.set_cons_succ]
  refine wpList_run rfl (exec_sub3 rfl HE.out rfl rfl rfl hN) ?_
  rw [subAt_zero]
  simp only [Act.put, List.setIfInBounds_toArray, List.set_cons_zero, List.set_cons_succ]
  refine wpList_val' rfl (by go_simp; rfl) ?_
  simp only [Act.put, List.setIfInBounds_toArray, List.set_cons_zero, List.set_cons_succ]
  refine wpList_nil ?_
  go_simp
  have hcp : ∀ (cells : Array Value) (W : World), Own w W [(g, cells)] [] → ∀ j u, [Value.int .u8 c][j]? = some u → W.cell? (A.add j) = some u := by
    intro cells W hW j u hj
    match j with
    | 0 =>
      simp at hj
      subst hj
      rw [Addr.add_zero']
      exact (hW.below.cell (block_lt_of_cell HA.out)).trans HA.out
    | j + 1 => simp at hj
  go_wp2_with (first
    | (refine wpList_run rfl (exec_copy (xs := [.int .u8 c]) rfl Try.underlying24 sz5 rfl rfl (hm2.row 0 rfl) (by simp [Nat.min_def]; omega) (hcp cs _ hm2) (by simp only [List.length_cons, List.length_nil]; omega) (one_list _ rfl)) ?_; have hm3 := hm2.setRow 0 (splice cs 0 [Value.int .u8 c].toArray) rfl; simp only [List.set] at hm3; clear hm2))
  have hsz := size_splice (cs := cs) (bp := 0) (m := 1) (v := .int .u8 c) (by omega)
  have htk := take_splice (cs := cs) (bp := 0) (m := 1) (v := .int .u8 c) rfl
  go_loopw [10] (fun u wr => ∃ (bp : Nat) (cells : Array Value), 1 ≤ bp ∧ bp ≤ k ∧ u = .int .i64 bp ∧ k ≤ cells.size ∧ Hid (cells.toList.take bp = List.replicate bp (.int .u8 c)) ∧ Own w wr [(g, cells)] []) (fun u _ => k - (intOf u).toNat)
  case atStart => exact ⟨1, _, by omega, by omega, rfl, by rw [hsz]; exact hN, htk, hm3⟩
  case round =>
    obtain ⟨bp, cells, h1, hbk, rfl, hN2, HT, hmr⟩ := hrel
    clear hm3 hsz htk
    by_cases hlt : bp < k
    · by_cases hb8 : 8192 < bp
      · have q1 : (8192 : Int) < bp := by omega
        go_wp2_with fail
        obtain ⟨m, hmm⟩ : ∃ m, m = Nat.min 8192 (k - bp) := ⟨_, rfl⟩
        have hm0 : 1 ≤ m ∧ m ≤ 8192 ∧ m ≤ k - bp := by rw [hmm]; simp only [Nat.min_def]; split <;> omega
        have HMM := Lib.hid hmm
        clear hmm
        have hwm : IntKind.i64.wrap ((bp : Int) + (m : Int)) = (bp : Int) + m := IntWalk.i64_in _ (by omega)
        have hS8 : Below w.heap.size w { wr with drawn := wr.drawn + 1 } := (hmr.drawn (wr.drawn + 1)).below
        refine wp_region_ord [(0, true), (1, true), (2, true), (3, true), (4, true), (5, true), (6, true), (7, false), (8, true), (9, true)] (fun W => Below w.heap.size w W) rfl (by kernel_rfl) rfl (by kernel_rfl) (fun _ _ d _ _ h => by cases d <;> exact h) hS8 ?_
        have hn := hmr.drawn (wr.drawn + 1)
        clear hS8
        generalize ({ wr with drawn := wr.drawn + 1 } : World) = wn at hn ⊢
        clear hmr
        refine ord_readl rfl rfl (fun W hW => by go_simp; rfl) ?_
        simp only [Act.put, List.setIfInBounds_toArray, List.set_cons_zero, List.set_cons_succ]
        refine ord_readl rfl rfl (fun W hW => by go_simp; rfl) ?_
        simp only [Act.put, List.setIfInBounds_toArray, List.set_cons_zero, List.set_cons_succ]
        refine ord_readl rfl rfl (fun W hW => by go_simp; rfl) ?_
        simp only [Act.put, List.setIfInBounds_toArray, List.set_cons_zero, List.set_cons_succ]
        refine ord_readl rfl rfl (fun W hW => exec_sub rfl HE.out rfl (.inr ⟨_, rfl⟩) (.inl ⟨rfl, rfl⟩) hbk (Nat.le_refl _)) ?_
        rw [subAt_mid g k bp hlt]
        simp only [Act.put, List.setIfInBounds_toArray, List.set_cons_zero, List.set_cons_succ]
        refine ord_readl rfl rfl (fun W hW => by go_simp; rfl) ?_
        simp only [Act.put, List.setIfInBounds_toArray, List.set_cons_zero, List.set_cons_succ]
        refine ord_readl rfl rfl (fun W hW => by go_simp; rfl) ?_
        simp only [Act.put, List.setIfInBounds_toArray, List.set_cons_zero, List.set_cons_succ]
        refine ord_readl rfl rfl (fun W hW => exec_sub (l := 0) (h := 8192) rfl HE.out rfl (.inl ⟨rfl, rfl⟩) (.inr ⟨_, rfl⟩) (Nat.zero_le _) (by omega)) ?_
        rw [subAt_zero]
        simp only [Act.put, List.setIfInBounds_toArray, List.set_cons_zero, List.set_cons_succ]
        have hm4 := hn.setRow 0 (splice cells bp (List.replicate m (Value.int .u8 c)).toArray) rfl
        simp only [List.set] at hm4
        refine ord_runl rfl rfl (exec_copy (xs := List.replicate m (.int .u8 c)) rfl Try.underlying24 sz5 rfl rfl (hn.row 0 rfl) (by rw [List.length_replicate, HMM.out]; try rfl) (fun j u hj => by obtain ⟨rfl, hjm⟩ := list_rep hj; exact cell_row (hn.row 0 rfl) j (get_take HT.out (by omega))) (by rw [List.length_replicate]; omega) (fun u hu => by rw [List.eq_of_mem_replicate hu]; rfl)) hm4.below ?_
        rw [List.length_replicate]
        simp only [Act.put, List.setIfInBounds_toArray, List.set_cons_zero, List.set_cons_succ]
        refine ord_readl rfl rfl (fun W hW => by go_simp; rfl) ?_
        simp only [Act.put, List.setIfInBounds_toArray, List.set_cons_zero, List.set_cons_succ]
        refine ord_readl rfl rfl (fun W hW => by go_simp; rfl) ?_
        simp only [Act.put, List.setIfInBounds_toArray, List.set_cons_zero, List.set_cons_succ]
        refine ord_nil ?_
        have hts := take_splice (m := m) HT.out
        have hss := size_splice (cs := cells) (bp := bp) (m := m) (v := .int .u8 c) (by omega)
        clear hn HMM
        go_simp
        go_wp2
        go_roundw
        case rel => exact ⟨bp + m, _, by omega, by omega, by go_num, by rw [hss]; exact hN2, hts, hm4⟩
        case measure => simp [intOf]; omega
      · have q1 : ¬ (8192 : Int) < bp := by omega
        go_wp2_with fail
        obtain ⟨m, hmm⟩ : ∃ m, m = Nat.min bp (k - bp) := ⟨_, rfl⟩
        have hm0 : 1 ≤ m ∧ m ≤ bp ∧ m ≤ k - bp := by rw [hmm]; simp only [Nat.min_def]; split <;> omega
        have HMM := Lib.hid hmm
        clear hmm
        have hwm : IntKind.i64.wrap ((bp : Int) + (m : Int)) = (bp : Int) + m := IntWalk.i64_in _ (by omega)
        have hS8 : Below w.heap.size w { wr with drawn := wr.drawn + 1 } := (hmr.drawn (wr.drawn + 1)).below
        refine wp_region_ord [(0, true), (1, true), (2, true), (3, true), (4, true), (5, true), (6, true), (7, false), (8, true), (9, true)] (fun W => Below w.heap.size w W) rfl (by kernel_rfl) rfl (by kernel_rfl) (fun _ _ d _ _ h => by cases d <;> exact h) hS8 ?_
        have hn := hmr.drawn (wr.drawn + 1)
        clear hS8
        generalize ({ wr with drawn := wr.drawn + 1 } : World) = wn at hn ⊢
        clear hmr
        refine ord_readl rfl rfl (fun W hW => by go_simp; rfl) ?_
        simp only [Act.put, List.setIfInBounds_toArray, List.set_cons_zero, List.set_cons_succ]
        refine ord_readl rfl rfl (fun W hW => by go_simp; rfl) ?_
        simp only [Act.put, List.setIfInBounds_toArray, List.set_cons_zero, List.set_cons_succ]
        refine ord_readl rfl rfl (fun W hW => by go_simp; rfl) ?_
        simp only [Act.put, List.setIfInBounds_toArray, List.set_cons_zero, List.set_cons_succ]
        refine ord_readl rfl rfl (fun W hW => exec_sub rfl HE.out rfl (.inr ⟨_, rfl⟩) (.inl ⟨rfl, rfl⟩) hbk (Nat.le_refl _)) ?_
        rw [subAt_mid g k bp hlt]
        simp only [Act.put, List.setIfInBounds_toArray, List.set_cons_zero, List.set_cons_succ]
        refine ord_readl rfl rfl (fun W hW => by go_simp; rfl) ?_
        simp only [Act.put, List.setIfInBounds_toArray, List.set_cons_zero, List.set_cons_succ]
        refine ord_readl rfl rfl (fun W hW => by go_simp; rfl) ?_
        simp only [Act.put, List.setIfInBounds_toArray, List.set_cons_zero, List.set_cons_succ]
        refine ord_readl rfl rfl (fun W hW => exec_sub (l := 0) (h := bp) rfl HE.out rfl (.inl ⟨rfl, rfl⟩) (.inr ⟨_, rfl⟩) (Nat.zero_le _) (by omega)) ?_
        rw [subAt_zero]
        simp only [Act.put, List.setIfInBounds_toArray, List.set_cons_zero, List.set_cons_succ]
        have hm4 := hn.setRow 0 (splice cells bp (List.replicate m (Value.int .u8 c)).toArray) rfl
        simp only [List.set] at hm4
        refine ord_runl rfl rfl (exec_copy (xs := List.replicate m (.int .u8 c)) rfl Try.underlying24 sz5 rfl rfl (hn.row 0 rfl) (by rw [List.length_replicate, HMM.out]; try rfl) (fun j u hj => by obtain ⟨rfl, hjm⟩ := list_rep hj; exact cell_row (hn.row 0 rfl) j (get_take HT.out (by omega))) (by rw [List.length_replicate]; omega) (fun u hu => by rw [List.eq_of_mem_replicate hu]; rfl)) hm4.below ?_
        rw [List.length_replicate]
        simp only [Act.put, List.setIfInBounds_toArray, List.set_cons_zero, List.set_cons_succ]
        refine ord_readl rfl rfl (fun W hW => by go_simp; rfl) ?_
        simp only [Act.put, List.setIfInBounds_toArray, List.set_cons_zero, List.set_cons_succ]
        refine ord_readl rfl rfl (fun W hW => by go_simp; rfl) ?_
        simp only [Act.put, List.setIfInBounds_toArray, List.set_cons_zero, List.set_cons_succ]
        refine ord_nil ?_
        have hts := take_splice (m := m) HT.out
        have hss := size_splice (cs := cells) (bp := bp) (m := m) (v := .int .u8 c) (by omega)
        clear hn HMM
        go_simp
        go_wp2
        go_roundw
        case rel => exact ⟨bp + m, _, by omega, by omega, by go_num, by rw [hss]; exact hN2, hts, hm4⟩
        case measure => simp [intOf]; omega
    · obtain rfl : k = bp := by omega
      go_wp2_with fail
      go_ret
      exact ⟨⟨g, cells, by rw [List.length_replicate]; rfl, hmr.row 0 rfl, hmr.mem.own _ (List.mem_cons_self ..), by rw [List.length_replicate, HT.out]; simp [vs]⟩, hmr.below⟩
theorem repeat_any (c : Int) (v : Value) (k : Nat) (w : World) (hk : k ≤ 65536) (A : Addr) (cp : Nat) (hv : v = .slice (some A) 1 cp) (hA : w.cell? A = some (.int .u8 c)) : Calls Try.prog 75 #[v, .int .i64 k] w (BytesPost w (List.replicate k c)) := by
  subst hv
  by_cases h0 : k = 0
  · subst h0; exact repeat_none A cp w
  by_cases hs : 8192 < k
  · exact repeat_big c A cp k w (by omega) hk hA hs
  · exact repeat_small c A cp k w (by omega) hk hA hs
end Go.Proofs.Ytaccjnekonmkoaa
