/-
  Part 12 of the proof.
-/
import Derived.Deep.AppendSrc
import Derived.Laws.BitsLemmas
import Derived.Test.YtkpbhdhkdonghaaGreatT07
import Derived.Test.YtkpbhdhkdonghaaGreatT11
set_option linter.all false
namespace Go.Proofs.YtkpbhdhkdonghaaGreat
open Go Go.RowKit
theorem Own.perm {w0 w : World} {rs rt : List (Nat × Array Value)} {ss : List Sl} (h : Own w0 w rs ss) (hp : rt.Perm rs) : Own w0 w rt ss :=
  ⟨⟨h.mem.below, fun p hp' => h.mem.own p (hp.mem_iff.1 hp'), fun p hp' => h.mem.rows p (hp.mem_iff.1 hp'), (hp.map _).nodup_iff.2 h.mem.apart⟩, h.sl, ((hp.map Prod.fst).append_left _).nodup_iff.2 h.apart⟩
theorem Own.up {w0 w : World} {ss : List Sl} (L : List (Nat × Array Value)) {r : Nat × Array Value} {X rs : List (Nat × Array Value)} (h : Own w0 w (r :: (L ++ (X ++ rs))) ss) : Own w0 w (r :: (X ++ (L ++ rs))) ss :=
  h.perm (List.Perm.cons r (by rw [← List.append_assoc, ← List.append_assoc]; exact List.perm_append_comm.append_right rs))
def Lies (s : Nat) (X : List (Nat × Array Value)) (v : Value) (n : Nat) (xs : List Value) : Prop := xs.length = n * s ∧ ((v = .slice none 0 0 ∧ xs = [] ∧ n = 0 ∧ X = []) ∨ ∃ g p c cells, X = [(g, cells)] ∧ v = .slice (some ⟨g, p, none⟩) n c ∧ n ≤ c ∧ p + c * s ≤ cells.size ∧ ∀ j, j < xs.length → cells[p + j]? = xs[j]?)
def From (s : Nat) (w : World) (v : Value) (k : Nat) (news : List Value) : Prop := news.length = k * s ∧ ((v = .slice none 0 0 ∧ k = 0 ∧ news = []) ∨ ∃ ad c, v = .slice (some ad) k c ∧ (∀ j u, news[j]? = some u → w.cell? (ad.add j) = some u))
theorem From.of_row {w : World} {g s k c : Nat} {cs : Array Value} (h : RowIs w g cs) (off : Nat) {news : List Value} (hn : news.length = k * s) (hc : ∀ j u, news[j]? = some u → cs[off + j]? = some u) : From s w (.slice (some ⟨g, off, none⟩) k c) k news :=
  ⟨hn, .inr ⟨_, _, rfl, fun j u hj => by rw [Addr.add_lit, h.cell]; exact hc j u hj⟩⟩
theorem get_putAll : ∀ (vs : List Value) (cs : Array Value) (o i : Nat), o + vs.length ≤ cs.size → (putAll cs o vs)[i]? = if o ≤ i ∧ i < o + vs.length then vs[i - o]? else cs[i]?
  | [], cs, o, i, _ => by simp [putAll]; omega
  | v :: vs, cs, o, i, h => by
    simp only [List.length_cons] at h ⊢
    rw [putAll, get_putAll vs _ (o + 1) i (by simp; omega)]
    by_cases h1 : o + 1 ≤ i ∧ i < o + 1 + vs.length
    · rw [if_pos h1, if_pos (by omega), show i - o = (i - (o + 1)) + 1 by omega, List.getElem?_cons_succ]
    · rw [if_neg h1]
      by_cases h2 : i = o
      · subst h2
        rw [if_pos (by omega), Nat.sub_self, List.getElem?_cons_zero, Array.getElem?_setIfInBounds_self_of_lt (by omega)]
      · rw [if_neg (by omega), Array.getElem?_setIfInBounds_ne (by omega)]
theorem size_putAll : ∀ (vs : List Value) (cs : Array Value) (o : Nat), (putAll cs o vs).size = cs.size
  | [], _, _ => rfl
  | v :: vs, cs, o => by rw [putAll, size_putAll vs]; simp
structure ElemT (P : Program) (t e s bytes : Nat) (i : TypeInfo) (z : Value) : Prop where
  under : P.underlying t = some (.slice e)
  info : P.info? e = some i
  zero : i.zero = some z
  size : i.size = s
  zs : z.cells.size = s
  bytes : i.bytes = bytes
theorem ElemT.ex {P : Program} {t e s bytes : Nat} {z : Value} (hu : P.underlying t = some (.slice e)) (h : (P.info? e).map (fun i => (i.zero, i.size, i.bytes)) = some (some z, s, bytes)) (hc : z.cells.size = s) : ∃ i, ElemT P t e s bytes i z := by
  cases hi : P.info? e with
  | none => rw [hi] at h; cases h
  | some i =>
    rw [hi] at h
    simp only [Option.map_some, Option.some.injEq, Prod.mk.injEq] at h
    exact ⟨i, hu, hi, h.1, h.2.1, hc, h.2.2⟩
section
variable {P : Program} {w0 w : World} {A X rs : List (Nat × Array Value)} {ss : List Sl} {o : Oper} {a : Act} {K : Value → World → Prop}
theorem Own.grow {nr : Nat × Array Value} (h : Own w0 w (nr :: (A ++ (X ++ rs))) ss) : Own w0 w (A ++ ([nr] ++ rs)) ss := by
  have h1 : Own w0 w (nr :: (A ++ rs)) ss := h.sub (List.Sublist.cons_cons nr (List.Sublist.append (List.Sublist.refl A) (List.sublist_append_right X rs))) (List.Sublist.refl _)
  exact h1.perm List.perm_middle
theorem eff_appendX {x y : Operand} {t e s bytes : Nat} {i : TypeInfo} {z : Value} (hm : Own w0 w (A ++ (X ++ rs)) ss) (ho : o.op = .call { callee := .builtin .append, args := #[x, y], argTypes := #[t, t] }) (he : ElemT P t e s bytes i z)
    {v : Value} {n : Nat} {xs : List Value} (hx : a.eval x = v) (hX : Lies s X v n xs) {sv : Value} {k : Nat} {news : List Value} (hy : a.eval y = sv) (hs : ∀ W, Own w0 W (A ++ (X ++ rs)) ss → From s W sv k news) (h1 : ∀ u ∈ news, u.oneCell' = true) (hb : (n + k) * bytes ≤ 140737488355328) (h63 : n + k ≤ 281474976710656) (hs0 : 0 < s)
    (h : ∀ X' v' w', Lies s X' v' (n + k) (xs ++ news) → Own w0 w' (A ++ (X' ++ rs)) ss → K v' w') : Eff P o a w K := by
  have hF := hs w hm
  have hFD := hs w.drew (by exact hm.drawn _)
  have hlen : (xs ++ news).length = (n + k) * s := by rw [List.length_append, hX.1, hF.1, Nat.add_mul]
  suffices hh : ∃ v' w', (Builtin.append_ #[t, t] o.type #[v, sv]).run P w = .ok v' w' ∧ K v' w' by
    obtain ⟨v', w', hr, hK⟩ := hh
    refine Eff.val (v := v') (w' := w') ?_ hK
    unfold execOp
    simp only [ho, resolve, invoke, builtin, Sem.run_bind, Sem.run_pure, Result.andThen_ok, List.map_toArray, List.map_cons, List.map_nil, hx, hy, hr]
  have hsrc : ∀ j : Unit, Go.Src P i.size t sv k news w := fun _ => by
    rcases hF.2 with ⟨rfl, rfl, rfl⟩ | ⟨ad, c, rfl, hc⟩
    · exact Go.Src.ofNil w he.under 0
    · exact Go.Src.ofSlice w he.under ad k c news (by rw [he.size]; exact hF.1) hc h1
  have grow : ∀ (base : Option Addr) (sCap : Nat), sCap < n + k → (Builtin.firstCells i.size n (.slice base n sCap)).run P w.drew = .ok xs.toArray w.drew → v = .slice base n sCap → ∃ v' w', (Builtin.append_ #[t, t] o.type #[v, sv]).run P w = .ok v' w' ∧ K v' w' := by
    intro base sCap hg hold hv
    have hr := run_append_grow_src w t t o.type e i z he.under he.info he.zero base n sCap xs hold sv k news (hsrc ()) hg (by omega) (growslice_fits hg (by rw [he.bytes]; exact hb))
    rw [hv]
    refine ⟨_, _, hr, ?_⟩
    have hge := grownCap_ge w (n + k) sCap e
    refine h [(w.heap.size, (xs ++ news).toArray ++ Builtin.zeroCells z.cells (grownCap w (n + k) sCap e - (n + k)))] _ _ ⟨hlen, .inr ⟨_, 0, _, _, rfl, rfl, hge, ?_, ?_⟩⟩ ?_
    · rw [Nat.zero_add, Array.size_append, size_zeroCells, he.zs, List.size_toArray, hlen, ← Nat.add_mul]
      exact Nat.le_of_eq (by congr 1; omega)
    · intro j hj
      rw [Nat.zero_add, Array.getElem?_append_left (by simpa using hj)]
      simp
    · exact Own.grow ((hm.drawn (w.drawn + 1)).alloc _ e)
  rcases hX.2 with ⟨rfl, rfl, rfl, rfl⟩ | ⟨g, p, c, cells, rfl, rfl, hnc, hsz, hcells⟩
  · by_cases hk : k = 0
    · subst hk
      have hn0 : news = [] := by have := hF.1; rw [Nat.zero_mul] at this; exact List.length_eq_zero_iff.1 this
      subst hn0
      refine ⟨.slice none 0 0, w, ?_, h [] _ _ ⟨by simp, .inl ⟨rfl, rfl, rfl, rfl⟩⟩ hm⟩
      have hS := hsrc ()
      rcases hS.kind with ⟨e', hk⟩ | hk <;> simp [Builtin.append_, run_underlying he.under, run_underlying hk, sizeOf, typeInfo, he.info, hS.len, hS.cells]
    · exact grow none 0 (by omega) (by simpa using run_firstCells_none (P := P) w.drew i.size 0 0 0) rfl
  · by_cases hr : n + k ≤ c
    · have hi : (A ++ ([(g, cells)] ++ rs))[A.length]? = some (g, cells) := by simp
      have hrow := hm.row _ hi
      have hcs : c * s = n * s + (c - n) * s := by rw [← Nat.add_mul]; congr 1; omega
      have hks : k * s ≤ (c - n) * s := Nat.mul_le_mul_right s (by omega)
      have hfit : p + n * s + news.length ≤ cells.size := by rw [hF.1]; omega
      have hrun := run_append_room_src w t t o.type e i he.under he.info g p n c sv k news (hsrc ()) hr (fun j hj => by rw [he.size, hrow.cell]; simp; omega) (fun j _ => hrow.free _)
      refine ⟨_, _, hrun, ?_⟩
      have hset := Own.setCells A.length news (p + n * i.size) w _ cells hm hi
      have e1 : (A ++ ([(g, cells)] ++ rs)).set A.length (g, putAll cells (p + n * i.size) news) = A ++ ([(g, putAll cells (p + n * i.size) news)] ++ rs) := by simp
      rw [e1] at hset
      refine h _ _ _ ⟨hlen, .inr ⟨g, p, c, _, rfl, rfl, hr, ?_, ?_⟩⟩ hset
      · rw [size_putAll]; exact hsz
      · intro j hj
        rw [he.size, get_putAll news cells _ _ hfit]
        rw [List.length_append] at hj
        by_cases hjx : j < xs.length
        · rw [if_neg (by rw [← hX.1]; omega), hcells j hjx, List.getElem?_append_left hjx]
        · rw [if_pos (by rw [← hX.1]; omega), List.getElem?_append_right (by omega)]
          congr 1
          rw [← hX.1]; omega
    · refine grow _ c (by omega) ?_ rfl
      refine run_firstCells_some (P := P) w.drew i.size n _ n c xs (by rw [he.size]; exact hX.1) ?_
      intro j u hj
      have hi : (A ++ ([(g, cells)] ++ rs))[A.length]? = some (g, cells) := by simp
      have hrow : RowIs w.drew g cells := Own.row (hm.drawn (w.drawn + 1)) _ hi
      have hjl := (List.getElem?_eq_some_iff.1 hj).1
      rw [Addr.add_lit, hrow.cell, hcells j hjl]
      exact hj
end
end Go.Proofs.YtkpbhdhkdonghaaGreat

namespace Go.Proofs.YtkpbhdhkdonghaaGreat
open Go Go.RowKit
theorem Lies.nil (s : Nat) : Lies s [] (.slice none 0 0) 0 [] := ⟨by simp, .inl ⟨rfl, rfl, rfl, rfl⟩⟩
theorem Lies.shape {s : Nat} {X : List (Nat × Array Value)} {v : Value} {n : Nat} {xs : List Value} (h : Lies s X v n xs) : ∃ ad c, v = .slice ad n c := by
  rcases h.2 with ⟨rfl, _, rfl, _⟩ | ⟨g, p, c, cells, _, rfl, _⟩
  · exact ⟨_, _, rfl⟩
  · exact ⟨_, _, rfl⟩
theorem Lies.pos {s : Nat} {X : List (Nat × Array Value)} {v : Value} {n : Nat} {xs : List Value} (h : Lies s X v n xs) (hn : 0 < n) : ∃ g p c cells, X = [(g, cells)] ∧ v = .slice (some ⟨g, p, none⟩) n c ∧ n ≤ c ∧ p + c * s ≤ cells.size ∧ xs.length = n * s ∧ ∀ j, j < xs.length → cells[p + j]? = xs[j]? := by
  rcases h.2 with ⟨rfl, _, rfl, _⟩ | ⟨g, p, c, cells, h1, h2, h3, h4, h5⟩
  · omega
  · exact ⟨g, p, c, cells, h1, h2, h3, h4, h.1, h5⟩
theorem Lies.of_row {s g n c p : Nat} {cells : Array Value} {xs : List Value} (h1 : xs.length = n * s) (h2 : n ≤ c) (h3 : p + c * s ≤ cells.size) (h4 : ∀ j, j < xs.length → cells[p + j]? = xs[j]?) : Lies s [(g, cells)] (.slice (some ⟨g, p, none⟩) n c) n xs :=
  ⟨h1, .inr ⟨g, p, c, cells, rfl, rfl, h2, h3, h4⟩⟩
theorem Lies.whole {s g n : Nat} {xs : List Value} (h1 : xs.length = n * s) : Lies s [(g, xs.toArray)] (.slice (some ⟨g, 0, none⟩) n n) n xs :=
  Lies.of_row h1 (Nat.le_refl _) (by simp [h1]) (fun j hj => by simp)
theorem Lies.from {s : Nat} {w w0 : World} {A X rs : List (Nat × Array Value)} {ss : List Sl} {v : Value} {n : Nat} {xs : List Value} (h : Lies s X v n xs) (hm : Own w0 w (A ++ (X ++ rs)) ss) : From s w v n xs := by
  refine ⟨h.1, ?_⟩
  rcases h.2 with ⟨rfl, rfl, rfl, rfl⟩ | ⟨g, p, c, cells, rfl, rfl, hc, hs, hcells⟩
  · exact .inl ⟨rfl, rfl, rfl⟩
  · refine .inr ⟨_, _, rfl, fun j u hj => ?_⟩
    have hr := hm.row (i := A.length) (g := g) (cs := cells) (by simp)
    have hl := (List.getElem?_eq_some_iff.1 hj).1
    rw [Addr.add_lit, hr.cell, hcells j hl, hj]
section
variable {P : Program} {w w0 : World} {o : Oper} {a : Act} {rs : List (Nat × Array Value)} {ss : List Sl}
theorem ix {t e s bytes : Nat} {i : TypeInfo} {z : Value} {x y : Operand} (ho : o.op = .indexAddr t x y) (he : ElemT P t e s bytes i z) {g p n c : Nat} (hx : a.eval x = .slice (some ⟨g, p, none⟩) n c) {k : Nat} {q : IntKind} {zz : Int} (hy : a.eval y = .int q zz) (hz : zz = k) (hk : k < n) :
    (execOp a.eval o).run P w = .ok (.value (.pointer (some ⟨g, p + k * s, none⟩))) w := by
  subst hz
  unfold execOp
  simp only [ho, hx, hy, Instr.indexAt, asIntOf, Sem.run_bind, Sem.run_pure, Result.andThen_ok, run_underlying he.under]
  simp [show (k : Int) < (n : Int) by omega, sizeOf, typeInfo, he.info, he.size, Addr.add_lit]
theorem ix1 {t e bytes : Nat} {i : TypeInfo} {z : Value} {x y : Operand} (ho : o.op = .indexAddr t x y) (he : ElemT P t e 1 bytes i z) {g p n c : Nat} (hx : a.eval x = .slice (some ⟨g, p, none⟩) n c) {k : Nat} {q : IntKind} {zz : Int} (hy : a.eval y = .int q zz) (hz : zz = k) (hk : k < n) :
    (execOp a.eval o).run P w = .ok (.value (.pointer (some ⟨g, p + k, none⟩))) w := by
  have := ix (P := P) (w := w) ho he hx hy hz hk
  rwa [Nat.mul_one] at this
theorem Lies.sub {s : Nat} {X : List (Nat × Array Value)} {ad : Option Addr} {n c : Nat} {xs : List Value} (hX : Lies s X (.slice ad n c) n xs) {l h : Nat} (h1 : l ≤ h) (h2 : h ≤ n) : Lies s X (.slice (if c = l then ad else ad.map (·.add (l * s))) (h - l) (c - l)) (h - l) ((xs.take (h * s)).drop (l * s)) := by
  have hlen : ((xs.take (h * s)).drop (l * s)).length = (h - l) * s := by
    rw [List.length_drop, List.length_take, hX.1, Nat.min_eq_left (Nat.mul_le_mul_right s h2), Nat.sub_mul]
  refine ⟨hlen, ?_⟩
  rcases hX.2 with ⟨e, rfl, rfl, rfl⟩ | ⟨g, p, c', cells, rfl, e, hc, hs, hcells⟩
  · cases e
    obtain rfl : l = 0 := by omega
    obtain rfl : h = 0 := by omega
    exact .inl ⟨by simp, by simp, rfl, rfl⟩
  · cases e
    by_cases hcl : c = l
    · refine .inr ⟨g, p, 0, cells, rfl, by rw [if_pos hcl, hcl, Nat.sub_self], by omega, by omega, fun j hj => ?_⟩
      rw [hlen] at hj
      have : h - l = 0 := by omega
      rw [this, Nat.zero_mul] at hj
      omega
    · refine .inr ⟨g, p + l * s, c - l, cells, rfl, by rw [if_neg hcl, Option.map_some, Addr.add_lit], by omega, ?_, fun j hj => ?_⟩
      · have : l * s + (c - l) * s = c * s := by rw [← Nat.add_mul]; congr 1; omega
        omega
      · rw [hlen] at hj
        have e1 : (h - l) * s = h * s - l * s := Nat.sub_mul h l s
        have e2 : h * s ≤ n * s := Nat.mul_le_mul_right s h2
        have hx1 := hX.1
        rw [Nat.add_assoc, hcells (l * s + j) (by omega), List.getElem?_drop, List.getElem?_take_of_lt (by omega)]
theorem Lies.put {s g p n c : Nat} {cells : Array Value} {xs : List Value} (hX : Lies s [(g, cells)] (.slice (some ⟨g, p, none⟩) n c) n xs) {j : Nat} (hj : j < xs.length) (u : Value) : p + j < cells.size ∧ Lies s [(g, cells.setIfInBounds (p + j) u)] (.slice (some ⟨g, p, none⟩) n c) n (xs.set j u) := by
  rcases hX.2 with ⟨e, _⟩ | ⟨g', p', c', cells', e1, e2, hc, hs, hcells⟩
  · cases e
  · cases e1; cases e2
    have hlt : p + j < cells.size := by
      have : n * s ≤ c * s := Nat.mul_le_mul_right s hc
      have := hX.1
      omega
    refine ⟨hlt, by rw [List.length_set]; exact hX.1, .inr ⟨g, p, c, _, rfl, rfl, hc, by rw [Array.size_setIfInBounds]; exact hs, fun k hk => ?_⟩⟩
    rw [List.length_set] at hk
    by_cases hjk : j = k
    · subst hjk
      rw [Array.getElem?_setIfInBounds_self_of_lt hlt, List.getElem?_set_self hj]
    · rw [Array.getElem?_setIfInBounds_ne (by omega), List.getElem?_set_ne hjk]
      exact hcells k hk
theorem Lies.cell {s g p n c : Nat} {cells : Array Value} {xs : List Value} (hX : Lies s [(g, cells)] (.slice (some ⟨g, p, none⟩) n c) n xs) {j : Nat} {u : Value} (hj : xs[j]? = some u) : cells[p + j]? = some u := by
  rcases hX.2 with ⟨e, _⟩ | ⟨g', p', c', cells', e1, e2, hc, hs, hcells⟩
  · cases e
  · cases e1; cases e2
    rw [hcells j (List.getElem?_eq_some_iff.1 hj).1, hj]
end
theorem vs_set (k : IntKind) (l : List Int) (i : Nat) (x : Int) : (vs k l).set i (.int k x) = vs k (l.set i x) := by simp [vs, List.map_set]
theorem vs_app (k : IntKind) (l m : List Int) : vs k l ++ vs k m = vs k (l ++ m) := by simp [vs]
theorem em22 : ∃ i, ElemT Tryz.prog 22 5 1 1 i (.int .u8 0) := ElemT.ex Tryz.underlying22 (by kernel_rfl) rfl
theorem em124 : ∃ i, ElemT Tryz.prog 124 3 1 8 i (.int .i64 0) := ElemT.ex Tryz.underlying124 (by kernel_rfl) rfl
theorem em239 : ∃ i, ElemT Tryz.prog 239 241 2 16 i (.agg #[.int .i64 0, .int .i64 0]) := ElemT.ex Tryz.underlying239 (by kernel_rfl) rfl
end Go.Proofs.YtkpbhdhkdonghaaGreat

namespace Go.Proofs.YtkpbhdhkdonghaaGreat
open Go Go.RowKit
theorem From.one {w : World} {g : Nat} {v : Value} (h : RowIs w g #[v]) : From 1 w (.slice (some ⟨g, 0, none⟩) 1 1) 1 [v] := by
  refine From.of_row h 0 rfl (fun j u hj => ?_)
  have hl := (List.getElem?_eq_some_iff.1 hj).1
  simp at hl
  subst hl
  simpa using hj
theorem one_lit1 {v : Value} (h : v.oneCell' = true) : ∀ u ∈ [v], u.oneCell' = true := fun u hu => by rw [List.mem_singleton.1 hu]; exact h
end Go.Proofs.YtkpbhdhkdonghaaGreat

namespace Go.Proofs.YtkpbhdhkdonghaaGreat
open Go Go.RowKit
theorem zrA115 (w : World) : (zeroValue 115).run Tryz.prog w = .ok (.agg (J .i64 (tab 256 fun _ => 0))) w := by kernel_rfl
def SlPosI (w0 : World) (l : List Int) (rs : List (Nat × Array Value)) (ss : List Sl) (x : Ending) (w' : World) : Prop := ∃ X v, x = .returned v ∧ Lies 1 X v l.length (vs .i64 l) ∧ Own w0 w' (X ++ rs) ss
theorem Lies.inn {w w0 : World} {A X rs : List (Nat × Array Value)} {ss : List Sl} {v : Value} {n : Nat} {k : IntKind} {l : List Int} (h : Lies 1 X v n (vs k l)) (hm : Own w0 w (A ++ (X ++ rs)) ss) : In k w v l := by
  have hn : n = l.length := by have := h.1; simp [vs] at this; omega
  subst hn
  rcases h.2 with ⟨rfl, hx, h0, rfl⟩ | ⟨g, p, c, cells, rfl, rfl, hc, hs, hcells⟩
  · exact ⟨none, 0, by rw [h0], fun i hi => by omega⟩
  · refine ⟨_, _, rfl, fun i hi => ⟨_, rfl, ?_⟩⟩
    have hr := hm.row (i := A.length) (g := g) (cs := cells) (by simp)
    rw [Addr.add_lit, hr.cell, hcells i (by rw [length_vs]; exact hi), get_vs _ _ i hi]
theorem Own.behind {w0 w : World} {X rs : List (Nat × Array Value)} {ss : List Sl} (h : Own w0 w (X ++ rs) ss) : Own w0 w rs ss := h.sub (List.sublist_append_right X rs) (List.Sublist.refl _)
theorem tab_succ (n : Nat) (f : Nat → Int) : tab (n + 1) f = tab n f ++ [f n] := by simp [tab, List.range_succ]
theorem lsn_snoc (l : List Int) (k : Nat) (h : k < l.length) (c : Nat) : lsn (l.take (k + 1)) c = lsn (l.take k) c + if gi l k < c then 1 else 0 := by
  rw [lsn, take_snoc_gi l k h, List.countP_append, lsn, List.countP_singleton]
  by_cases e : gi l k < c <;> simp [e]
def lsB (l : List Int) (k x c j : Nat) : Int := lsn (l.take k) j + if x < j ∧ j < c then 1 else 0
theorem lsB_set (l : List Int) (k x c j : Nat) (h : x < c) : (if j = c then lsB l k x c c + 1 else lsB l k x c j) = lsB l k x (c + 1) j := by
  simp only [lsB]
  by_cases e : j = c
  · subst e; rw [if_pos rfl, if_neg (by omega), if_pos (by omega)]; omega
  · rw [if_neg e]
    by_cases e2 : x < j ∧ j < c
    · rw [if_pos e2, if_pos (by omega)]
    · rw [if_neg e2, if_neg (by omega)]
theorem lsB_bound (l : List Int) (k x c j : Nat) : 0 ≤ lsB l k x c j ∧ lsB l k x c j ≤ l.length + 1 := by
  have := lsn_bound (l.take k) j; have := List.length_take_le' k l; rw [lsB]; split <;> omega
set_option maxRecDepth 100000 in
set_option maxHeartbeats 2000000 in
theorem after17 (v : Value) (l : List Int) (w0 w : World) (rs : List (Nat × Array Value)) (ss : List Sl) (hm : Own w0 w rs ss) (hv : ∀ W, Own w0 W rs ss → In .u8 W v l) (hb : Bytes l) (hn : l.length ≤ 1000000) : Calls Tryz.prog 122 #[v] w (SlPosI w0 (tab l.length (aft l)) rs ss) := by
  obtain ⟨ad, cp, rfl, _⟩ := hv w hm
  have HC : Hid (∀ W, Own w0 W rs ss → ∀ k, k < l.length → ∃ A, ad = some A ∧ W.cell? (A.add k) = some (.int .u8 (gi l k))) := Lib.hid fun W h k hk => by
    obtain ⟨ad2, cp2, he, hc⟩ := hv W h
    cases he
    exact hc k hk
  obtain ⟨i1, hE1⟩ := el24
  have HB5 := Lib.hid hE1
  obtain ⟨i2, hE2⟩ := em124
  have HE := Lib.hid hE2
  obtain ⟨i3, hE3⟩ := el39
  have HL := Lib.hid hE3
  obtain ⟨i4, hE4⟩ := em22
  have HE22 := Lib.hid hE4
  have HB := Lib.hid hb
  clear hE1 hE2 hE3 hE4 hb hv
  go_enter Tryz.func122, Tryz.ntmps122
  go_wp2_with (first
    | (with_reducible refine gAl (t := 115) ?_; (refine list_eff rfl (eff_alloc hm rfl zrA115 ?_); clear hm; first | (have _t := g1; intro w g2 hm) | intro w g1 hm)))
  have hm0 : Own w0 w ((g2, J .i64 (tab 256 (fun _ => 0))) :: (g1, J .i64 (tab 256 (lsn (l.take 0)))) :: rs) ss := by
    rw [tab_congr (f := lsn (l.take 0)) (g := fun _ => 0) (fun i _ => by simp [lsn])]
    exact hm
  clear hm
  have hm := hm0
  clear hm0
  go_loopw [5] (fun u wr => ∃ k : Nat, k ≤ l.length ∧ u = .int .i64 k ∧ Own w0 wr ((g2, J .i64 (tab 256 (fun _ => 0))) :: (g1, J .i64 (tab 256 (lsn (l.take k)))) :: rs) ss) (fun u _ => l.length - (intOf u).toNat)
  case atStart => exact ⟨0, by omega, rfl, hm⟩
  case round =>
    clear hm
    obtain ⟨k, hk, rfl, hm⟩ := hrel
    by_cases hlt : k < l.length
    · have hs := HB.out (gi l k) (by rw [gi_eq l k hlt]; exact List.getElem_mem _)
      obtain ⟨A, rfl, hA0⟩ := HC.out _ hm.dropRow.dropRow k hlt
      obtain ⟨x, hx⟩ := Int.eq_ofNat_of_zero_le hs.1
      have hcell : wr.cell? (A.add k) = some (.int .u8 x) := by rw [← hx]; exact hA0
      have hx1 : x < 256 := by omega
      have w1 : IntKind.i64.wrap (x : Int) = x := IntWalk.i64_in _ (by omega)
      have w2 : IntKind.i64.wrap ((x : Int) + 1) = ((x + 1 : Nat) : Int) := by rw [IntWalk.i64_in _ (by omega)]; push_cast; rfl
      have w3 : IntKind.i64.wrap ((k : Int) + 1) = ((k + 1 : Nat) : Int) := by rw [IntWalk.i64_in _ (by omega)]; push_cast; rfl
      have HT : Hid (∀ j, j < 256 → lsB l k x 256 j = lsn (l.take (k + 1)) j) := Lib.hid fun j hj => by
        rw [lsB, lsn_snoc l k hlt, hx]
        by_cases e : x < j
        · rw [if_pos (by omega), if_pos (by omega)]
        · rw [if_neg (by omega), if_neg (by omega)]
      have hm0 : Own w0 wr ((g2, J .i64 (tab 256 (fun _ => 0))) :: (g1, J .i64 (tab 256 (lsB l k x (x + 1)))) :: rs) ss := by
        rw [tab_congr (f := lsB l k x (x + 1)) (g := lsn (l.take k)) (fun i _ => by rw [lsB, if_neg (by omega), Int.add_zero])]
        exact hm
      clear hA0 hs hx hm
      have hm := hm0
      clear hm0
      go_wp2_with (first
          | (with_reducible refine gIa (t := 22) ?_; (refine wpList_run rfl (exec_indexAddr_sl rfl HB5.out rfl rfl rfl hlt) ?_))
          | (with_reducible refine gLd (t := 5) ?_; (refine wpList_run rfl (exec_loadaddr rfl rfl one5 (hcell)) ?_)))
      go_loopw [6] (fun u wr => ∃ c : Nat, x + 1 ≤ c ∧ c ≤ 256 ∧ u = .int .i64 c ∧ Own w0 wr ((g2, J .i64 (tab 256 (fun _ => 0))) :: (g1, J .i64 (tab 256 (lsB l k x c))) :: rs) ss) (fun u _ => 256 - (intOf u).toNat)
      case atStart => exact ⟨x + 1, by omega, by omega, by go_num, hm⟩
      case round =>
        clear hm hcell
        obtain ⟨c, hc0, hc1, rfl, hm⟩ := hrel
        by_cases hlc : c < 256
        · have hbd := lsB_bound l k x c c
          have w4 : IntKind.i64.wrap (lsB l k x c c + 1) = lsB l k x c c + 1 := IntWalk.i64_in _ (by omega)
          have w5 : IntKind.i64.wrap ((c : Int) + 1) = ((c + 1 : Nat) : Int) := by rw [IntWalk.i64_in _ (by omega)]; push_cast; rfl
          have HG := Lib.hid (at_tab .i64 (lsB l k x c) hlc)
          have HP := Lib.hid (J_tab .i64 (n := 256) (lsB l k x c) (lsB l k x (c + 1)) c (lsB l k x c c + 1) (fun j _ => lsB_set l k x c j (by omega)))
          have HSZ : Hid (c < (J .i64 (tab 256 (lsB l k x c))).size) := Lib.hid (by rw [size_J, len_tab]; exact hlc)
          clear hbd
          generalize lsB l k x c c = y at *
          generalize hT1 : tab 256 (lsB l k x c) = T1 at *
          generalize hT2 : tab 256 (lsB l k x (c + 1)) = T2 at *
          generalize tab 256 (fun _ => 0) = T3 at *
          go_wp2_with (first
              | (with_reducible refine gLd (t := 3) ?_; (refine wpList_run rfl (ld 1 hm rfl rfl rfl (ot rfl) HG.out) ?_))
              | (with_reducible refine gSt (t := 3) ?_; (refine list_eff rfl (eff_cell 1 hm rfl rfl (ev_tmp rfl) rfl (ot rfl) HSZ.out rfl rfl HP.out ?_); clear hm; intro w hm; try simp only [puts, List.cons_append, List.nil_append, List.set] at hm)))
          go_roundw
          case rel => exact ⟨c + 1, by omega, by omega, by go_num, by rw [hT2]; exact hm⟩
          case measure => simp [intOf]; omega
        · obtain rfl : c = 256 := by omega
          have hm0 : Own w0 wr ((g2, J .i64 (tab 256 (fun _ => 0))) :: (g1, J .i64 (tab 256 (lsn (l.take (k + 1))))) :: rs) ss := by
            rw [← tab_congr HT.out]
            exact hm
          clear hm
          have hm := hm0
          clear hm0
          go_wp2
          go_roundw
          case rel => exact ⟨k + 1, by omega, by go_num, hm⟩
          case measure => simp [intOf]; omega
    · obtain rfl : l.length = k := by omega
      go_wp2
      have hm0 : Own w0 wr ((g2, J .i64 (tab 256 (eqn (l.take 0)))) :: (g1, J .i64 (tab 256 (lsn l))) :: ([] ++ rs)) ss := by
        rw [tab_congr (f := eqn (l.take 0)) (g := fun _ => 0) (fun i _ => by simp [eqn])]
        rw [List.take_length] at hm
        exact hm
      clear hm
      have hm := hm0
      clear hm0
      go_loopw [7, 8] (fun z u wr => ∃ (k : Nat) (X : List (Nat × Array Value)) (a2 : Option Addr) (c2 : Nat), k ≤ l.length ∧ u = .int .i64 k ∧ z = .slice a2 k c2 ∧ Lies 1 X z k (vs .i64 (tab k (aft l))) ∧ Own w0 wr ((g2, J .i64 (tab 256 (eqn (l.take k)))) :: (g1, J .i64 (tab 256 (lsn l))) :: (X ++ rs)) ss) (fun _ u _ => l.length - (intOf u).toNat)
      case atStart => exact ⟨0, [], none, 0, by omega, rfl, rfl, Lies.nil 1, hm⟩
      case round =>
        clear hm
        obtain ⟨k, X, a2, c2, hk, rfl, rfl, hX, hm⟩ := hrel
        have HX := Lib.hid hX
        clear hX
        by_cases hlt : k < l.length
        · have hs := HB.out (gi l k) (by rw [gi_eq l k hlt]; exact List.getElem_mem _)
          obtain ⟨A, rfl, hA0⟩ := HC.out _ hm.dropRow.dropRow.behind k hlt
          obtain ⟨x, hx⟩ := Int.eq_ofNat_of_zero_le hs.1
          have hcell : wr.cell? (A.add k) = some (.int .u8 x) := by rw [← hx]; exact hA0
          have hx1 : x < 256 := by omega
          have w3 : IntKind.i64.wrap ((k : Int) + 1) = ((k + 1 : Nat) : Int) := by rw [IntWalk.i64_in _ (by omega)]; push_cast; rfl
          have b1 := lsn_bound l x
          have b2 := eqn_bound (l.take k) x
          have b3 := List.length_take_le' k l
          have w4 : IntKind.i64.wrap (1 + lsn l x) = 1 + lsn l x := IntWalk.i64_in _ (by omega)
          have w5 : IntKind.i64.wrap (1 + lsn l x + eqn (l.take k) x) = 1 + lsn l x + eqn (l.take k) x := IntWalk.i64_in _ (by omega)
          have w6 : IntKind.i64.wrap (eqn (l.take k) x + 1) = eqn (l.take k) x + 1 := IntWalk.i64_in _ (by omega)
          have HG1 := Lib.hid (at_tab .i64 (lsn l) hx1)
          have HG2 := Lib.hid (at_tab .i64 (eqn (l.take k)) hx1)
          have HP := Lib.hid (J_tab .i64 (n := 256) (eqn (l.take k)) (eqn (l.take (k + 1))) x (eqn (l.take k) x + 1) (fun j _ => by
            rw [eqn_snoc l k hlt j, hx]
            by_cases e : j = x
            · subst e; rw [if_pos rfl, if_pos rfl]
            · rw [if_neg e, if_neg (by omega), Int.add_zero]))
          have HSZ : Hid (x < (J .i64 (tab 256 (eqn (l.take k)))).size) := Lib.hid (by rw [size_J, len_tab]; exact hx1)
          have HS : Hid (vs .i64 (tab k (aft l)) ++ [.int .i64 (1 + lsn l x + eqn (l.take k) x)] = vs .i64 (tab (k + 1) (aft l))) := Lib.hid (by rw [tab_succ, ← vs_app, aft, hx]; rfl)
          clear hA0 hs hx b1 b2 b3
          generalize lsn l x = y at *
          generalize eqn (l.take k) x = z at *
          generalize hT1 : tab 256 (eqn (l.take k)) = T1 at *
          generalize hT2 : tab 256 (eqn (l.take (k + 1))) = T2 at *
          generalize tab 256 (lsn l) = T3 at *
          go_upto_region 14 with (first
              | (with_reducible refine gIa (t := 22) ?_; (refine wpList_run rfl (exec_indexAddr_sl rfl HB5.out rfl rfl rfl hlt) ?_))
              | (with_reducible refine gLd (t := 5) ?_; (refine wpList_run rfl (exec_loadaddr rfl rfl one5 (hcell)) ?_)))
          refine wp_region_KO hm 9 (.rds [(0, false), (1, false), (2, false), (3, true), (4, false), (5, false), (6, false), (7, true), (8, false)] (.brk 9 10 (.brk 10 12 (.rds [(11, false)] .done)))) rfl (by kernel_rfl) rfl (by kernel_rfl) (fun _ _ d _ _ h => by cases d <;> exact h) ?_
          clear hm
          intro w hm
          simp only [KT.rds]
          (refine K_p rfl rfl (fun W => by go_simp; rfl) ?_)
          try simp only [Act.put, List.setIfInBounds_toArray, List.set_cons_zero, List.set_cons_succ]
          (refine K_p rfl rfl (fun W => by go_simp; rfl) ?_)
          try simp only [Act.put, List.setIfInBounds_toArray, List.set_cons_zero, List.set_cons_succ]
          (refine K_p rfl rfl (fun W => by go_simp; rw [if_pos (by omega)]) ?_)
          try simp only [Act.put, List.setIfInBounds_toArray, List.set_cons_zero, List.set_cons_succ]
          (refine K_m rfl rfl (fun W hm => ld 1 hm rfl rfl rfl (ot rfl) HG1.out) ?_)
          try simp only [Act.put, List.setIfInBounds_toArray, List.set_cons_zero, List.set_cons_succ]
          (refine K_p rfl rfl (fun W => by go_simp; (first | (rw [IntWalk.i64_in _ (by omega)]; done) | (rw [IntWalk.i64_in _ (by omega)]; rfl) | rfl)) ?_)
          try simp only [Act.put, List.setIfInBounds_toArray, List.set_cons_zero, List.set_cons_succ]
          (refine K_p rfl rfl (fun W => by go_simp; rfl) ?_)
          try simp only [Act.put, List.setIfInBounds_toArray, List.set_cons_zero, List.set_cons_succ]
          (refine K_p rfl rfl (fun W => by go_simp; rw [if_pos (by omega)]) ?_)
          try simp only [Act.put, List.setIfInBounds_toArray, List.set_cons_zero, List.set_cons_succ]
          (refine K_m rfl rfl (fun W hm => ld 0 hm rfl rfl rfl (ot rfl) HG2.out) ?_)
          try simp only [Act.put, List.setIfInBounds_toArray, List.set_cons_zero, List.set_cons_succ]
          (refine K_p rfl rfl (fun W => by go_simp; (first | (rw [IntWalk.i64_in _ (by omega)]; done) | (rw [IntWalk.i64_in _ (by omega)]; rfl) | rfl)) ?_)
          try simp only [Act.put, List.setIfInBounds_toArray, List.set_cons_zero, List.set_cons_succ]
          refine brk_eff rfl rfl (eff_build1 hm rfl HL.out (ev_tmp rfl) rfl ?_)
          clear hm
          intro w gb hm
          refine ⟨fun W => Own _ W _ _, hm, ?_⟩
          try simp only [Act.put, List.setIfInBounds_toArray, List.set_cons_zero, List.set_cons_succ]
          refine brk_eff rfl rfl (eff_appendX (A := [_, _, _]) (X := X) hm rfl HE.out (ev_tmp rfl) HX.out (ev_tmp rfl) (fun W h => From.one (h.row 0 rfl)) (one_lit1 rfl) (by omega) (by omega) (by omega) ?_)
          clear hm
          intro X2 v2 w hX2 hm
          simp only [List.cons_append, List.nil_append] at hm
          replace hm := hm.dropRow
          obtain ⟨ad2, c3, rfl⟩ := hX2.shape
          have HX2 := Lib.hid hX2
          clear hX2
          refine ⟨fun W => Own _ W _ _, hm, ?_⟩
          try simp only [Act.put, List.setIfInBounds_toArray, List.set_cons_zero, List.set_cons_succ]
          (refine K_p rfl rfl (fun W => by go_simp; rfl) ?_)
          try simp only [Act.put, List.setIfInBounds_toArray, List.set_cons_zero, List.set_cons_succ]
          refine K_done ?_
          go_simp
          have HX4 : Hid (Lies 1 X2 (.slice ad2 (k + 1) c3) (k + 1) (vs .i64 (tab (k + 1) (aft l)))) := Lib.hid (by rw [← HS.out]; exact HX2.out)
          clear HX2
          go_wp2_with (first
              | (with_reducible refine gLd (t := 3) ?_; (refine wpList_run rfl (ld 0 hm rfl rfl rfl (ot rfl) HG2.out) ?_))
              | (with_reducible refine gSt (t := 3) ?_; (refine list_eff rfl (eff_cell 0 hm rfl rfl (ev_tmp rfl) rfl (ot rfl) HSZ.out rfl rfl HP.out ?_); clear hm; intro w hm; try simp only [puts, List.cons_append, List.nil_append, List.set] at hm)))
          go_roundw
          case rel => exact ⟨k + 1, X2, ad2, c3, by omega, by go_num, rfl, HX4.out, by rw [hT2]; exact hm⟩
          case measure => simp [intOf]; omega
        · obtain rfl : k = l.length := by omega
          go_wp2
          go_ret
          exact ⟨X, _, rfl, by rw [len_tab]; exact HX.out, hm.dropRow.dropRow⟩
end Go.Proofs.YtkpbhdhkdonghaaGreat

namespace Go.Proofs.YtkpbhdhkdonghaaGreat
open Go Go.RowKit
def wi (n lo hi : Int) : Bool := decide (lo ≤ n ∧ n ≤ hi)
theorem wi_t {n lo hi : Int} (h : lo ≤ n) (k : n ≤ hi) : wi n lo hi = true := decide_eq_true ⟨h, k⟩
theorem wi_f {n lo hi : Int} (h : ¬ (lo ≤ n ∧ n ≤ hi)) : wi n lo hi = false := decide_eq_false h
set_option maxRecDepth 100000 in
set_option maxHeartbeats 1000000 in
theorem rwithin (n lo hi : Int) (w : World) : Calls Tryz.prog 119 #[.int .i64 n, .int .i64 lo, .int .i64 hi] w fun x w' => (x = .returned (.bool (wi n lo hi))) ∧ w' = w := by
  by_cases h1 : lo ≤ n
  · have q1 : decide (lo ≤ n) = true := decide_eq_true h1
    by_cases h2 : n ≤ hi
    · have q2 : decide (n ≤ hi) = true := decide_eq_true h2
      rw [wi_t h1 h2]
      go_enter Tryz.func119, Tryz.ntmps119
      go_wp2
      go_ret
      exact ⟨rfl, rfl⟩
    · have q2 : decide (n ≤ hi) = false := decide_eq_false h2
      rw [wi_f (fun h => h2 h.2)]
      go_enter Tryz.func119, Tryz.ntmps119
      go_wp2
      go_ret
      exact ⟨rfl, rfl⟩
  have q1 : decide (lo ≤ n) = false := decide_eq_false h1
  rw [wi_f (fun h => h1 h.1)]
  go_enter Tryz.func119, Tryz.ntmps119
  go_wp2
  go_ret
  exact ⟨rfl, rfl⟩
set_option maxRecDepth 100000 in
set_option maxHeartbeats 1000000 in
theorem lwithin (n lo hi : Int) (w : World) : Calls Tryz.prog 210 #[.int .i64 n, .int .i64 lo, .int .i64 hi] w fun x w' => (x = .returned (.bool (wi n lo hi))) ∧ w' = w := by
  by_cases h1 : lo ≤ n
  · have q1 : decide (lo ≤ n) = true := decide_eq_true h1
    by_cases h2 : n ≤ hi
    · have q2 : decide (n ≤ hi) = true := decide_eq_true h2
      rw [wi_t h1 h2]
      go_enter Tryz.func210, Tryz.ntmps210
      go_wp2
      go_ret
      exact ⟨rfl, rfl⟩
    · have q2 : decide (n ≤ hi) = false := decide_eq_false h2
      rw [wi_f (fun h => h2 h.2)]
      go_enter Tryz.func210, Tryz.ntmps210
      go_wp2
      go_ret
      exact ⟨rfl, rfl⟩
  have q1 : decide (lo ≤ n) = false := decide_eq_false h1
  rw [wi_f (fun h => h1 h.1)]
  go_enter Tryz.func210, Tryz.ntmps210
  go_wp2
  go_ret
  exact ⟨rfl, rfl⟩
@[reducible] def VN (V M : Int) : Array Value := #[.int .i64 V, .int .i64 M]
theorem rb {a b : Bool} (h : a = b) : Ending.returned (.bool a) = .returned (.bool b) := by rw [h]
end Go.Proofs.YtkpbhdhkdonghaaGreat

namespace Go.Proofs.YtkpbhdhkdonghaaGreat
open Go Go.RowKit
set_option maxRecDepth 100000 in
set_option maxHeartbeats 1000000 in
theorem rapart_z (a n b m : Nat) (hz : m = 0) (hn : 1 ≤ n) (w : World) : Calls Tryz.prog 163 #[.agg (SP a n), .agg (SP b m)] w fun x w' => (x = .returned (.bool true)) ∧ Below w.heap.size w w' := by
  subst hz
  have q0 : ((n : Int) == 0) = false := by simp; omega
  clear hn
  go_enter Tryz.func163, Tryz.ntmps163
  have hm := Own.nil w
  go_wp2_with (first
      | (with_reducible refine gBx ?_; (refine list_eff rfl (eff_box hm rfl rfl ?_); clear hm; intro w g hm))
      | (with_reducible refine gLd (t := 3) ?_; (first | (refine wpList_run rfl (ld 0 hm rfl rfl rfl (ot rfl) (by first | exact (SP0 _ _) | exact (SP1 _ _))) ?_) | (refine wpList_run rfl (ld 1 hm rfl rfl rfl (ot rfl) (by first | exact (SP0 _ _) | exact (SP1 _ _))) ?_)))
      | (with_reducible refine gLd (t := 50) ?_; (first | (refine wpList_run rfl (lda 0 hm rfl rfl rfl (aggSP _ _)) ?_) | (refine wpList_run rfl (lda 1 hm rfl rfl rfl (aggSP _ _)) ?_))))
  go_ret
  exact ⟨rfl, hm.below⟩
set_option maxRecDepth 100000 in
set_option maxHeartbeats 1000000 in
theorem rapart_p (a n b m : Nat) (hz : 1 ≤ m) (hn : 1 ≤ n) (ha : a + n ≤ b) (hb : b ≤ 1048576) (w : World) : Calls Tryz.prog 163 #[.agg (SP a n), .agg (SP b m)] w fun x w' => (x = .returned (.bool true)) ∧ Below w.heap.size w w' := by
  have q0 : ((n : Int) == 0) = false := by simp; omega
  have q1 : ((m : Int) == 0) = false := by simp; omega
  have w1 : IntKind.i64.wrap ((a : Int) + n) = (a : Int) + n := IntWalk.i64_in _ (by omega)
  have q2 : decide ((a : Int) + n ≤ b) = true := decide_eq_true (by omega)
  clear hn hz ha hb
  go_enter Tryz.func163, Tryz.ntmps163
  have hm := Own.nil w
  go_wp2_with (first
      | (with_reducible refine gBx ?_; (refine list_eff rfl (eff_box hm rfl rfl ?_); clear hm; intro w g hm))
      | (with_reducible refine gLd (t := 3) ?_; (first | (refine wpList_run rfl (ld 0 hm rfl rfl rfl (ot rfl) (by first | exact (SP0 _ _) | exact (SP1 _ _))) ?_) | (refine wpList_run rfl (ld 1 hm rfl rfl rfl (ot rfl) (by first | exact (SP0 _ _) | exact (SP1 _ _))) ?_)))
      | (with_reducible refine gLd (t := 50) ?_; (first | (refine wpList_run rfl (lda 0 hm rfl rfl rfl (aggSP _ _)) ?_) | (refine wpList_run rfl (lda 1 hm rfl rfl rfl (aggSP _ _)) ?_))))
  go_ret
  exact ⟨rfl, hm.below⟩
theorem rapart_ok (a n b m : Nat) (hn : 1 ≤ n) (ha : a + n ≤ b) (hb : b ≤ 1048576) (w : World) : Calls Tryz.prog 163 #[.agg (SP a n), .agg (SP b m)] w fun x w' => (x = .returned (.bool true)) ∧ Below w.heap.size w w' := by
  by_cases h : m = 0
  · exact rapart_z a n b m h hn w
  · exact rapart_p a n b m (by omega) hn ha hb w
theorem ri {k : IntKind} {a b : Int} (h : a = b) : Ending.returned (.int k a) = .returned (.int k b) := by rw [h]
set_option maxRecDepth 100000 in
set_option maxHeartbeats 1000000 in
theorem rsize_ok (n d q : Nat) (hqd : q = n / d) (h1 : n ≤ 65536) (h2 : 1 ≤ d) (h3 : d ≤ 65536) (w : World) : Calls Tryz.prog 164 #[.int .i64 n, .int .i64 d] w fun x w' => (x = .returned (.int .i64 ((1024 * q : Nat) : Int))) ∧ w' = w := by
  have hq : q ≤ n := by rw [hqd]; exact Nat.div_le_self n d
  have e1 : (n : Int).tdiv d = (q : Int) := by rw [hqd]; rfl
  have e2 : (n : Int) / d = (q : Int) := by rw [hqd]; rfl
  clear hqd
  have w1 : wi n 0 65536 = true := wi_t (by omega) (by omega)
  have w2 : wi d 1 65536 = true := wi_t (by omega) (by omega)
  have q0 : ((d : Int) == 0) = false := by simp; omega
  have q0b : (d : Int) ≠ 0 := by omega
  have w3 : IntKind.i64.wrap (q : Int) = (q : Int) := IntWalk.i64_in _ (by omega)
  have w4 : IntKind.i64.wrap ((q : Int) * 1024) = ((1024 * q : Nat) : Int) := by rw [IntWalk.i64_in _ (by omega)]; push_cast; omega
  go_enter Tryz.func164, Tryz.ntmps164
  go_wp2_with (first
      | (go_at_call 119; refine (rwithin _ _ _ _).mono ?_; rintro e w1 ⟨rfl, rfl⟩))
  go_ret
  exact ⟨ri (by push_cast; omega), rfl⟩
end Go.Proofs.YtkpbhdhkdonghaaGreat

namespace Go.Proofs.YtkpbhdhkdonghaaGreat
open Go Go.RowKit
structure RkOk (live : Int) (a n b m d : Nat) : Prop where
  n1 : 1 ≤ n
  n2 : n ≤ 65536
  d1 : 1 ≤ d
  d2 : d ≤ 65536
  ap : a + n ≤ b
  fit : (b : Int) + m ≤ live
  big : 1024 * (n / d) ≤ m
  lim : live ≤ 1048576
set_option maxRecDepth 100000 in
set_option maxHeartbeats 1000000 in
theorem rvalid_ok (ga : Nat) (dv : Value) (live peak : Int) (a n b m d : Nat) (h : RkOk live a n b m d) (w0 : World) (hr : RowIs w0 ga (AR dv live peak)) : Calls Tryz.prog 118 #[.pointer (some ⟨ga, 0, none⟩), .agg (SP a n), .agg (SP b m), .int .i64 d] w0 fun x w' => (x = .returned (.bool true)) ∧ Below w0.heap.size w0 w' := by
  obtain ⟨n1, n2, d1, d2, ap, fit, big, lim⟩ := h
  have CH : Hid (∀ W (x y : Nat), (x = a ∧ y = n ∨ x = b ∧ y = m) → Below w0.heap.size w0 W → Calls Tryz.prog 64 #[.pointer (some ⟨ga, 0, none⟩), .agg (SP x y)] W fun e w' => (e = .returned (.bool true)) ∧ Below W.heap.size W w') := Lib.hid fun W x y hxy h => has_ok ga dv live peak x y W (hr.keep W h) (by omega) (by omega) (by omega) lim
  have CA := Lib.hid (fun w => rapart_ok a n b m n1 ap (by omega) w)
  obtain ⟨q, hq⟩ : ∃ q : Nat, q = n / d := ⟨_, rfl⟩
  have CS := Lib.hid (fun w => rsize_ok n d q hq n2 d1 d2 w)
  rw [← hq] at big
  have w1 : wi n 1 65536 = true := wi_t (by omega) (by omega)
  have w2 : wi d 1 65536 = true := wi_t (by omega) (by omega)
  have q1 : decide (((1024 * q : Nat) : Int) ≤ m) = true := decide_eq_true (by omega)
  have q3 : decide (1024 * (q : Int) ≤ m) = true := decide_eq_true (by omega)
  have q2 : decide (1024 * q ≤ m) = true := decide_eq_true big
  clear hr n1 n2 d1 d2 ap fit lim hq big
  go_enter Tryz.func118, Tryz.ntmps118
  have hm := Own.nil w0
  go_upto_region 3 with (first
      | (go_at_call 64; have _t := hm; refine (CH.out _ _ _ (by first | exact .inl ⟨rfl, rfl⟩ | exact .inr ⟨rfl, rfl⟩) hm.below).mono ?_; rintro e w1 ⟨rfl, hb⟩; replace hm := hm.call hb; clear hb _t)
      | (go_at_call 119; refine (rwithin _ _ _ _).mono ?_; rintro e w1 ⟨rfl, rfl⟩)
      | (with_reducible refine gBx ?_; (refine list_eff rfl (eff_box hm rfl rfl ?_); clear hm; intro w g hm))
      | (with_reducible refine gLd (t := 3) ?_; (first | (refine wpList_run rfl (ld 0 hm rfl rfl rfl (ot rfl) (by first | exact (SP0 _ _) | exact (SP1 _ _))) ?_) | (refine wpList_run rfl (ld 1 hm rfl rfl rfl (ot rfl) (by first | exact (SP0 _ _) | exact (SP1 _ _))) ?_)))
      | (with_reducible refine gLd (t := 50) ?_; (first | (refine wpList_run rfl (lda 0 hm rfl rfl rfl (aggSP _ _)) ?_) | (refine wpList_run rfl (lda 1 hm rfl rfl rfl (aggSP _ _)) ?_))))
  refine wp_region_KO hm 13 (.rds [(0, true), (1, true)] (.one 2 (.rds [(3, false), (4, false), (5, true), (6, false), (7, true), (8, false)] (.one 9 (.rds [(10, false), (11, false), (12, false)] .done))))) rfl (by kernel_rfl) rfl (by kernel_rfl) (fun _ _ d _ _ h => by cases d <;> exact h) ?_
  clear hm
  intro w hm
  simp only [KT.rds]
  (refine K_m rfl rfl (fun W hm => lda 1 hm rfl rfl rfl (aggSP _ _)) ?_)
  try simp only [Act.put, List.setIfInBounds_toArray, List.set_cons_zero, List.set_cons_succ]
  (refine K_m rfl rfl (fun W hm => lda 0 hm rfl rfl rfl (aggSP _ _)) ?_)
  try simp only [Act.put, List.setIfInBounds_toArray, List.set_cons_zero, List.set_cons_succ]
  refine one_do rfl rfl (fun K hK => ?_)
  go_simp
  refine (CA.out _).mono ?_
  rintro e w1 ⟨rfl, hb⟩
  replace hm := hm.call hb
  clear hb
  refine hK _ _ ⟨fun W => Own _ W _ _, fun _ h => h, hm, ?_⟩
  clear hK K
  try simp only [Act.put, List.setIfInBounds_toArray, List.set_cons_zero, List.set_cons_succ]
  (refine K_p rfl rfl (fun W => by go_simp; rfl) ?_)
  try simp only [Act.put, List.setIfInBounds_toArray, List.set_cons_zero, List.set_cons_succ]
  (first | (refine K_p rfl rfl (fun W => by go_simp; rfl) ?_) | (refine K_pass rfl rfl ?_))
  try simp only [Act.put, List.setIfInBounds_toArray, List.set_cons_zero, List.set_cons_succ]
  (first | (refine K_m rfl rfl (fun W hm => ld 0 hm rfl rfl rfl (ot rfl) (SP1 _ _)) ?_) | (refine K_mpass rfl rfl ?_))
  try simp only [Act.put, List.setIfInBounds_toArray, List.set_cons_zero, List.set_cons_succ]
  (first | (refine K_p rfl rfl (fun W => by go_simp; rfl) ?_) | (refine K_pass rfl rfl ?_))
  try simp only [Act.put, List.setIfInBounds_toArray, List.set_cons_zero, List.set_cons_succ]
  (first | (refine K_m rfl rfl (fun W hm => ld 1 hm rfl rfl rfl (ot rfl) (SP1 _ _)) ?_) | (refine K_mpass rfl rfl ?_))
  try simp only [Act.put, List.setIfInBounds_toArray, List.set_cons_zero, List.set_cons_succ]
  (first | (refine K_p rfl rfl (fun W => by go_simp; rfl) ?_) | (refine K_pass rfl rfl ?_))
  try simp only [Act.put, List.setIfInBounds_toArray, List.set_cons_zero, List.set_cons_succ]
  refine one_do rfl rfl (fun K hK => ?_)
  go_simp
  refine (CS.out _).mono ?_
  rintro e w1 ⟨rfl, rfl⟩
  refine hK _ _ ⟨fun W => Own _ W _ _, fun _ h => h, hm, ?_⟩
  clear hK K
  try simp only [Act.put, List.setIfInBounds_toArray, List.set_cons_zero, List.set_cons_succ]
  (first | (refine K_p rfl rfl (fun W => by go_simp; rfl) ?_) | (refine K_pass rfl rfl ?_))
  try simp only [Act.put, List.setIfInBounds_toArray, List.set_cons_zero, List.set_cons_succ]
  (refine K_p rfl rfl (fun W => by go_simp; rfl) ?_)
  try simp only [Act.put, List.setIfInBounds_toArray, List.set_cons_zero, List.set_cons_succ]
  (refine K_p rfl rfl (fun W => by go_simp; rfl) ?_)
  try simp only [Act.put, List.setIfInBounds_toArray, List.set_cons_zero, List.set_cons_succ]
  refine K_done ?_
  go_simp
  go_wp2
  go_ret
  exact ⟨rfl, hm.below⟩
end Go.Proofs.YtkpbhdhkdonghaaGreat

namespace Go.Proofs.YtkpbhdhkdonghaaGreat
open Go Go.RowKit
theorem eqn_lsn (l : List Int) (c : Nat) : eqn l c + lsn l c ≤ l.length := by
  have := lsn_bound l (c + 1)
  rw [lsn_step] at this
  omega
theorem eqn_take_lt (l : List Int) (k : Nat) (h : k < l.length) (c : Nat) (hc : gi l k = c) : eqn (l.take k) c + 1 ≤ eqn l c := by
  have h1 := eqn_snoc l k h c
  rw [if_pos hc] at h1
  have h2 : eqn (l.take (k + 1)) c ≤ eqn l c := by
    have := (List.take_sublist (k + 1) l).countP_le (p := fun x : Int => decide (x = (c : Int)))
    simp only [eqn]; omega
  omega
theorem aft_bound {l : List Int} (hb : Bytes l) (k : Nat) (h : k < l.length) : 1 ≤ aft l k ∧ aft l k ≤ l.length := by
  have h2 := eqn_bound (l.take k) (gi l k).toNat
  have h1 := lsn_bound l (gi l k).toNat
  have hs := hb (gi l k) (by rw [gi_eq l k h]; exact List.getElem_mem _)
  have h3 := eqn_take_lt l k h (gi l k).toNat (by omega)
  have h4 := eqn_lsn l (gi l k).toNat
  rw [aft]
  omega
theorem colp_lt {index n r : Nat} (h1 : 1 ≤ index) (h2 : index ≤ n) (hr : r ≤ n) (hne : r ≠ index) : colp index r < n := by
  rw [colp]; split <;> omega
end Go.Proofs.YtkpbhdhkdonghaaGreat
