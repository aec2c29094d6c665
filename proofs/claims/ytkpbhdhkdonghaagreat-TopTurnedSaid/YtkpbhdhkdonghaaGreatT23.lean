/-
  Part 23 of the proof.
-/
import Derived.Test.YtkpbhdhkdonghaaGreatT11
import Derived.Test.YtkpbhdhkdonghaaGreatT19
import Derived.Test.YtkpbhdhkdonghaaGreatT20
import Derived.Test.YtkpbhdhkdonghaaGreatT22
set_option linter.all false
namespace Go.Proofs.YtkpbhdhkdonghaaGreat
open Go Go.RowKit
section
variable {w0 w : World} {rs : List (Nat × Array Value)} {ss : List Sl} {o : Oper} {a : Act}
theorem lookM2 {mt kt vt r : Nat} {xs : List Value} {k v : Value} (i : Nat) (hm : Own w0 w rs ss) {x y : Operand} (ho : o.op = .lookup mt x y true) (hx : a.eval x = .map (some r)) (hy : a.eval y = k) (hi : ss[i]? = some (mapE r xs)) (hu : Tryz.prog.underlying mt = some (.map kt vt)) (kl : Maps.Keyed Tryz.prog kt)
    (hk : ∃ l, keyOf Tryz.prog kt k = some l) (hks : ∀ p ∈ pairsOf xs, ∃ l, keyOf Tryz.prog kt p.1 = some l) (hin : ∃ p ∈ pairsOf xs, p.1 = k) (hv : ∀ p ∈ pairsOf xs, p.1 = k → p.2 = v) : (execOp a.eval o).run Tryz.prog w = .ok (.value (.tuple #[v, .bool true])) w := by
  obtain ⟨es, clock, he, h1, h2, _⟩ := ((hm.sl _ (List.mem_of_getElem? hi)).map).2
  obtain ⟨l, hl⟩ := hk
  have hr : (Instr.lookup mt (.map (some r)) k true).run Tryz.prog w = .ok (.tuple #[v, .bool true]) w := by
    rcases kl.find w hl es.toList (fun e hm => hks (e.key, e.val) (h1 e hm)) with ⟨f1, f2⟩ | ⟨j, e0, f1, f2, f3⟩
    · obtain ⟨p, hp, rfl⟩ := hin
      obtain ⟨e, hme, hke⟩ := h2 p hp
      exact absurd hke (f2 e hme)
    · have hv' := hv _ (h1 e0 (List.mem_of_getElem? f2)) f3
      simp only at hv'
      simp [Instr.lookup, run_underlying hu, MapKept.run_getObj_map he, kl.check w _ hl, f1, Result.andThen, hv']
  unfold execOp
  simp only [ho, hx, hy, Sem.run_bind, hr, Result.andThen_ok, Sem.run_pure]
theorem lookN2 {mt kt vt r : Nat} {xs : List Value} {k z : Value} (i : Nat) (hm : Own w0 w rs ss) {x y : Operand} (ho : o.op = .lookup mt x y true) (hx : a.eval x = .map (some r)) (hy : a.eval y = k) (hi : ss[i]? = some (mapE r xs)) (hu : Tryz.prog.underlying mt = some (.map kt vt)) (kl : Maps.Keyed Tryz.prog kt)
    (hk : ∃ l, keyOf Tryz.prog kt k = some l) (hks : ∀ p ∈ pairsOf xs, ∃ l, keyOf Tryz.prog kt p.1 = some l) (hin : ∀ p ∈ pairsOf xs, p.1 ≠ k) (hz : ∀ w, (zeroValue vt).run Tryz.prog w = .ok z w) : (execOp a.eval o).run Tryz.prog w = .ok (.value (.tuple #[z, .bool false])) w := by
  obtain ⟨es, clock, he, h1, h2, _⟩ := ((hm.sl _ (List.mem_of_getElem? hi)).map).2
  obtain ⟨l, hl⟩ := hk
  have hr : (Instr.lookup mt (.map (some r)) k true).run Tryz.prog w = .ok (.tuple #[z, .bool false]) w := by
    rcases kl.find w hl es.toList (fun e hm => hks (e.key, e.val) (h1 e hm)) with ⟨f1, f2⟩ | ⟨j, e0, f1, f2, f3⟩
    · simp [Instr.lookup, run_underlying hu, MapKept.run_getObj_map he, kl.check w _ hl, f1, Result.andThen, hz]
    · exact absurd f3 (hin _ (h1 e0 (List.mem_of_getElem? f2)))
  unfold execOp
  simp only [ho, hx, hy, Sem.run_bind, hr, Result.andThen_ok, Sem.run_pure]
theorem lenM {mt kt vt r : Nat} {xs : List Value} (i : Nat) (hm : Own w0 w rs ss) {x : Operand} (ho : o.op = .call { callee := .builtin .len, args := #[x], argTypes := #[mt] }) (hx : a.eval x = .map (some r)) (hi : ss[i]? = some (mapE r xs)) (hu : Tryz.prog.underlying mt = some (.map kt vt)) : (execOp a.eval o).run Tryz.prog w = .ok (.value (.int .i64 ((pairsOf xs).length : Nat))) w := by
  obtain ⟨es, clock, he, h1, h2, h3⟩ := ((hm.sl _ (List.mem_of_getElem? hi)).map).2
  unfold execOp
  simp [ho, hx, resolve, invoke, builtin, Builtin.len_, run_underlying hu, MapKept.run_getObj_map he, Result.andThen, h3, goInt]
theorem exec_eqnil239 {t' : TypeId} {x y : Operand} (ho : o.op = .binOp .eql 239 x y t') {A : Addr} {n c : Nat} (hx : a.eval x = .slice (some A) n c) (hy : a.eval y = .slice none 0 0) : (execOp a.eval o).run Tryz.prog w = .ok (.value (.bool false)) w := by
  have hr : (Op.equal 239 (.slice (some A) n c) (.slice none 0 0)).run Tryz.prog w = .ok false w := run_eqslnilP w 9999 239 241 A n c Tryz.underlying239
  unfold execOp
  simp [ho, hx, hy, eqGuard, binOp, hr, Result.andThen]
end
def encP (p : Pr) : Value := .agg #[.int .i64 p.1, .int .i64 p.2]
theorem encP_inj {p q : Pr} (h : encP p = encP q) : p = q := by
  obtain ⟨a, b⟩ := p
  obtain ⟨c, d⟩ := q
  simp [encP] at h
  rw [h.1, h.2]
def mpx (f : Pr → Nat) (s : List Pr) : Nat → List Value
  | 0 => []
  | k + 1 => if gp s k ∈ s.take k then mpx f s k else encP (gp s k) :: .int .i64 (f (gp s k) : Nat) :: mpx f s k
theorem take_gp (s : List Pr) (k : Nat) (h : k < s.length) : s.take (k + 1) = s.take k ++ [gp s k] := by
  rw [List.take_add_one, List.getElem?_eq_getElem h, gp_eq s k h]; rfl
theorem mpx_mem (f : Pr → Nat) (s : List Pr) : ∀ k, k ≤ s.length → ∀ q, q ∈ pairsOf (mpx f s k) ↔ ∃ p ∈ s.take k, q = (encP p, .int .i64 (f p : Nat))
  | 0, _, q => by simp [mpx, pairsOf]
  | k + 1, hk, q => by
    have ih := mpx_mem f s k (by omega) q
    rw [mpx, take_gp s k (by omega)]
    by_cases h : gp s k ∈ s.take k
    · rw [if_pos h, ih]
      constructor
      · rintro ⟨p, hp, e⟩; exact ⟨p, List.mem_append_left _ hp, e⟩
      · rintro ⟨p, hp, e⟩
        rcases List.mem_append.1 hp with hp | hp
        · exact ⟨p, hp, e⟩
        · obtain rfl := List.mem_singleton.1 hp; exact ⟨_, h, e⟩
    · rw [if_neg h, pairsOf, List.mem_cons, ih]
      constructor
      · rintro (rfl | ⟨p, hp, e⟩)
        · exact ⟨gp s k, by simp, rfl⟩
        · exact ⟨p, List.mem_append_left _ hp, e⟩
      · rintro ⟨p, hp, e⟩
        rcases List.mem_append.1 hp with hp | hp
        · exact .inr ⟨p, hp, e⟩
        · obtain rfl := List.mem_singleton.1 hp; exact .inl e
theorem many_snoc (l : List Pr) (a : Pr) : many (l ++ [a]) = many l + if a ∈ l then 0 else 1 := by
  by_cases h : a ∈ l
  · rw [if_pos h, many, many, Nat.add_zero]
    exact length_same (nodup_nub _) (nodup_nub _) fun x => by
      rw [mem_nub, mem_nub, List.mem_append, List.mem_singleton]
      exact ⟨fun h2 => h2.elim id fun e => e ▸ h, .inl⟩
  · rw [if_neg h, many, many]
    have : (a :: nub l).Nodup := List.nodup_cons.2 ⟨fun h2 => h (mem_nub.1 h2), nodup_nub l⟩
    rw [length_same (nodup_nub (l ++ [a])) this fun x => by
      rw [mem_nub, List.mem_append, List.mem_singleton, List.mem_cons, mem_nub]
      exact or_comm]
    rfl
theorem mpx_len (f : Pr → Nat) (s : List Pr) : ∀ k, k ≤ s.length → (pairsOf (mpx f s k)).length = many (s.take k)
  | 0, _ => rfl
  | k + 1, hk => by
    have ih := mpx_len f s k (by omega)
    rw [mpx, take_gp s k (by omega), many_snoc]
    by_cases h : gp s k ∈ s.take k
    · rw [if_pos h, if_pos h, ih]; rfl
    · rw [if_neg h, if_neg h, pairsOf, List.length_cons, ih]
theorem rk_perm {l m : List Pr} (h : l.Perm m) (p : Pr) : rk l p = rk m p := countP_same _ (nodup_nub l) (nodup_nub m) fun x => by rw [mem_nub, mem_nub, h.mem_iff]
theorem many_perm {l m : List Pr} (h : l.Perm m) : many l = many m := length_same (nodup_nub l) (nodup_nub m) fun x => by rw [mem_nub, mem_nub, h.mem_iff]
theorem many_rk {s : List Pr} (hs : s.Pairwise fun a b => plt b a = false) {k : Nat} (hk : k < s.length) (hn : gp s k ∉ s.take k) : many (s.take k) = rk s (gp s k) := by
  rw [rk, List.countP_eq_length_filter, many]
  refine length_same (nodup_nub _) ((nodup_nub s).filter _) fun x => ?_
  rw [mem_nub, List.mem_filter, mem_nub]
  have hp := List.pairwise_iff_getElem.1 hs
  constructor
  · intro hx
    obtain ⟨i, hi, rfl⟩ := List.getElem_of_mem hx
    rw [List.length_take] at hi
    rw [List.getElem_take]
    refine ⟨List.getElem_mem _, ?_⟩
    have h1 := hp i k (by omega) hk (by omega)
    rcases plt_total s[i] (gp s k) with h2 | h2 | h2
    · exact h2
    · have hx2 : s[i] ∈ s.take k := by rw [List.getElem_take] at hx; exact hx
      rw [h2] at hx2
      exact absurd hx2 hn
    · rw [gp_eq s k hk] at h2; rw [h2] at h1; cases h1
  · rintro ⟨hx, h1⟩
    obtain ⟨i, hi, rfl⟩ := List.getElem_of_mem hx
    rw [gp_eq s k hk] at h1
    have hik : i < k := by
      rcases Nat.lt_trichotomy i k with h | h | h
      · exact h
      · subst h; rw [plt_irrefl] at h1; cases h1
      · have := hp k i hk hi h; rw [this] at h1; cases h1
    have h9 : i < (s.take k).length := by rw [List.length_take]; omega
    have : s[i] = (s.take k)[i] := by rw [List.getElem_take]
    rw [this]
    exact List.getElem_mem _
theorem wf_of {n : Int} (h1 : -1 ≤ n) (h2 : n ≤ 2000000) : (Lit.int .i64 n).wf = true := by
  simp [Lit.wf, IntKind.min, IntKind.max, IntKind.signed, IntKind.bits]
  omega
end Go.Proofs.YtkpbhdhkdonghaaGreat

namespace Go.Proofs.YtkpbhdhkdonghaaGreat
open Go Go.RowKit
open Go.Sort
set_option maxRecDepth 100000 in
set_option maxHeartbeats 1000000 in
theorem clone203 (gl : Nat) (l : List Pr) (w0 w : World) (rs : List (Nat × Array Value)) (ss : List Sl) (hm : Own w0 w ((gl, (flat l).toArray) :: rs) ss) (hn : l.length ≤ 1000000) : Calls Tryz.prog 203 #[.slice (some ⟨gl, 0, none⟩) l.length l.length] w fun e w' => ∃ X v, e = .returned v ∧ Lies 2 X v l.length (flat l) ∧ Own w0 w' (X ++ ((gl, (flat l).toArray) :: rs)) ss := by
  obtain ⟨i1, hE⟩ := em239
  have HE := Lib.hid hE
  have HF : Hid (∀ g W, Own w0 W ([] ++ ([(g, #[])] ++ ((gl, (flat l).toArray) :: rs))) ss → From 2 W (.slice (some ⟨gl, 0, none⟩) l.length l.length) l.length (flat l)) := Lib.hid fun g W h => From.of_row (h.row 1 rfl) 0 (len_flat l) (fun j u hj => by rw [Nat.zero_add, List.getElem?_toArray]; exact hj)
  have HO := Lib.hid (one_flat l)
  have HL0 : Hid (∀ g, Lies 2 [(g, (#[] : Array Value))] (.slice (some ⟨g, 0, none⟩) 0 0) 0 []) := Lib.hid fun g => Lies.of_row rfl (Nat.le_refl _) (by simp) (fun j hj => by simp at hj)
  clear hE
  go_enter Tryz.func203, Tryz.ntmps203
  go_wp2_with (first
    | (refine wpList_run rfl (exec_eqnil239 rfl rfl rfl) ?_)
    | (have hm2 := hm.alloc #[] 241; clear hm; refine list_eff rfl (eff_appendX (A := []) hm2 rfl HE.out rfl (HL0.out _) rfl (HF.out _) HO.out (by omega) (by omega) (by omega) ?_); clear hm2; intro X v w hX hm))
  go_ret
  exact ⟨X, v, rfl, by simpa using hX, hm⟩
end Go.Proofs.YtkpbhdhkdonghaaGreat

namespace Go.Proofs.YtkpbhdhkdonghaaGreat
open Go Go.RowKit
open Go.Sort
theorem eff_update {w0 w : World} {rs : List (Nat × Array Value)} {ss : List Sl} {o : Oper} {a : Act} {K : Value → World → Prop} {mt kt vt r : Nat} {xs : List Value} {k v : Value} (hm : Own w0 w rs (mapE r xs :: ss)) (hd : ∀ s ∈ ss, s.2.1 ≠ mapT + r) {x y z : Operand} (ho : o.op = .mapUpdate mt x y z) (hx : a.eval x = .map (some r)) (hy : a.eval y = k) (hz : a.eval z = v) (hu : Tryz.prog.underlying mt = some (.map kt vt)) (kl : Maps.Keyed Tryz.prog kt)
    (hk : ∃ l, keyOf Tryz.prog kt k = some l) (hks : ∀ p ∈ pairsOf xs, ∃ l, keyOf Tryz.prog kt p.1 = some l) (hn : ∀ p ∈ pairsOf xs, p.1 ≠ k) (h : ∀ w', Own w0 w' rs (mapE r (k :: v :: xs) :: ss) → K undef w') : Eff Tryz.prog o a w K := by
  obtain ⟨w', hr, h2⟩ := run_insertM (v := v) hu kl hm hd hk hks hn
  refine Eff.skip (w' := w') ?_ (h _ h2)
  unfold execOp
  simp only [ho, hx, hy, hz, Sem.run_bind, hr, Result.andThen_ok, Sem.run_pure]
theorem zr3 : ∀ w, (zeroValue 3).run Tryz.prog w = .ok (.int .i64 0) w := fun w => by kernel_rfl
set_option maxRecDepth 100000 in
set_option maxHeartbeats 2000000 in
theorem ranked_any (gl : Nat) (l : List Pr) (w0 w : World) (rs : List (Nat × Array Value)) (ss : List Sl) (hm : Own w0 w ((gl, (flat l).toArray) :: rs) ss) (hb : ∀ p ∈ l, -1 ≤ p.1 ∧ p.1 ≤ 2000000 ∧ -1 ≤ p.2 ∧ p.2 ≤ 2000000) (n1 : 1 ≤ l.length) (hn : l.length ≤ 1000000) : Calls Tryz.prog 165 #[.slice (some ⟨gl, 0, none⟩) l.length l.length] w fun e w' => ∃ X v, e = .returned (.tuple #[v, .int .i64 (many l)]) ∧ Lies 1 X v l.length (vs .i64 (rks l)) ∧ Own w0 w' ((gl, (flat l).toArray) :: (X ++ rs)) ss := by
  have HB := Lib.hid hb
  obtain ⟨i1, hE1⟩ := em239
  have HE239 := Lib.hid hE1
  obtain ⟨i2, hE2⟩ := em124
  have HE := Lib.hid hE2
  obtain ⟨i3, hE3⟩ := el39
  have HL := Lib.hid hE3
  have CC : Hid (∀ W, Own w0 W ((gl, (flat l).toArray) :: rs) ss → Calls Tryz.prog 203 #[.slice (some ⟨gl, 0, none⟩) l.length l.length] W fun e w' => ∃ X v, e = .returned v ∧ Lies 2 X v l.length (flat l) ∧ Own w0 w' (X ++ ((gl, (flat l).toArray) :: rs)) ss) := Lib.hid fun W h => clone203 gl l w0 W rs ss h hn
  have CS : Hid (∀ (W : World) (g p n c : Nat) (cells : Array Value), n ≤ 1000000 → Lies 2 [(g, cells)] (.slice (some ⟨g, p, none⟩) n c) n (flat l) → Own w0 W ((g, cells) :: (gl, (flat l).toArray) :: rs) ss → Calls Tryz.prog 204 #[.slice (some ⟨g, p, none⟩) n c, .func (.func 205) #[] #[]] W fun e w' => e = .returned (.tuple #[]) ∧ ∃ (l' : List Pr) (cells' : Array Value), l'.Perm l ∧ l'.Pairwise (fun a b => plt b a = false) ∧ Lies 2 [(g, cells')] (.slice (some ⟨g, p, none⟩) n c) n (flat l') ∧ Own w0 w' ((g, cells') :: (gl, (flat l).toArray) :: rs) ss) := Lib.hid fun W g p n c cells hn hX h => sort204 h hX hn
  have HFL := Lib.hid (flat_at l)
  have HLEN := Lib.hid (len_flat l)
  clear hE1 hE2 hE3 hb
  obtain ⟨n, hnl⟩ : ∃ n, n = l.length := ⟨_, rfl⟩
  rw [← hnl] at hn n1 CC HLEN HFL ⊢
  have HNL := Lib.hid hnl
  clear hnl
  go_enter Tryz.func165, Tryz.ntmps165
  go_wp2_with (first
    | (go_at_call 203; have _t := hm; refine (CC.out _ hm).mono ?_; clear _t; clear hm; rintro e w1 ⟨X1, v1, rfl, hX1, hm⟩; have hX1' := hX1; obtain ⟨g1, p1, c1, cells1, rfl, rfl, _, _, _, _⟩ := hX1'.pos (by omega); have HX1 := Lib.hid hX1; clear hX1 hX1')
    | (go_at_call 204; have _t := hm; refine (CS.out _ _ _ _ _ _ hn HX1.out hm).mono ?_; clear _t HX1; clear hm; rintro e w2 ⟨rfl, s, cells2, hP, hS, hX2, hm⟩; have HP := Lib.hid hP; have HSO := Lib.hid hS; have HX2 := Lib.hid hX2; clear hP hS hX2)
    | (refine list_eff rfl (eff_makeMap hm rfl ?_); clear hm; intro w3 r hm hd; have HD := Lib.hid hd; clear hd))
  have hsl : s.length = n := by rw [HP.out.length_eq, HNL.out]
  have HSL := Lib.hid hsl
  have HFS : Hid (∀ k, k < n → cells2[p1 + k * 2]? = some (.int .i64 (gp s k).1) ∧ cells2[p1 + k * 2 + 1]? = some (.int .i64 (gp s k).2)) := Lib.hid fun k hk => by
    have h := flat_at s k (by omega)
    exact ⟨HX2.out.cell h.1, by rw [Nat.add_assoc]; exact HX2.out.cell h.2⟩
  clear hsl HX2
  go_loopw [19] (fun u wr => ∃ k : Nat, k ≤ n ∧ u = .int .i64 k ∧ Own w0 wr ((g1, cells2) :: (gl, (flat l).toArray) :: rs) (mapE r (mpx (rk s) s k) :: ss)) (fun u _ => n - (intOf u).toNat)
  case atStart => exact ⟨0, by omega, rfl, hm⟩
  case round =>
    clear hm
    obtain ⟨k, hk, rfl, hm⟩ := hrel
    by_cases hlt : k < n
    · have w3 : IntKind.i64.wrap ((k : Int) + 1) = ((k + 1 : Nat) : Int) := by rw [IntWalk.i64_in _ (by omega)]; push_cast; rfl
      obtain ⟨hf0, hf1⟩ := HFS.out k hlt
      have hks : k < s.length := by rw [HSL.out]; exact hlt
      have HKS : Hid (∀ q ∈ pairsOf (mpx (rk s) s k), ∃ l, keyOf Tryz.prog 241 q.1 = some l) := Lib.hid fun q hq => by
        obtain ⟨p, hp, rfl⟩ := (mpx_mem (rk s) s k (by omega) q).1 hq
        have := HB.out p (HP.out.mem_iff.1 (List.mem_of_mem_take hp))
        exact key241 (wf_of this.1 this.2.1) (wf_of this.2.2.1 this.2.2.2)
      have hmem : gp s k ∈ s := gp_mem s k hks
      have hbp := HB.out (gp s k) (HP.out.mem_iff.1 hmem)
      have HK : Hid (∃ l, keyOf Tryz.prog 241 (.agg #[.int .i64 (gp s k).1, .int .i64 (gp s k).2]) = some l) := Lib.hid (key241 (wf_of hbp.1 hbp.2.1) (wf_of hbp.2.2.1 hbp.2.2.2))
      by_cases hin : gp s k ∈ s.take k
      · have HIN : Hid (∃ q ∈ pairsOf (mpx (rk s) s k), q.1 = Value.agg #[.int .i64 (gp s k).1, .int .i64 (gp s k).2]) := Lib.hid ⟨_, (mpx_mem (rk s) s k (by omega) _).2 ⟨gp s k, hin, rfl⟩, rfl⟩
        have HVV : Hid (∀ q ∈ pairsOf (mpx (rk s) s k), q.1 = Value.agg #[.int .i64 (gp s k).1, .int .i64 (gp s k).2] → q.2 = .int .i64 (rk s (gp s k) : Nat)) := Lib.hid fun q hq he => by
          obtain ⟨p, hp, rfl⟩ := (mpx_mem (rk s) s k (by omega) q).1 hq
          have : p = gp s k := encP_inj he
          rw [this]
        have HM : Hid (mpx (rk s) s (k + 1) = mpx (rk s) s k) := Lib.hid (by rw [mpx, if_pos hin])
        clear hin hmem hbp hks
        generalize rk s (gp s k) = z at *
        generalize (gp s k).1 = a at *
        generalize (gp s k).2 = b at *
        generalize mpx (rk s) s k = xs at *
        go_wp2_with (first
            | (with_reducible refine gIa (t := 239) ?_; (refine wpList_run rfl (ix rfl HE239.out rfl rfl rfl hlt) ?_))
            | (with_reducible refine gLd (t := 241) ?_; (first | (refine wpList_run rfl (ld2 0 hm rfl rfl rfl (ag rfl) hf0 hf1) ?_) | (refine wpList_run rfl (lda 0 hm rfl rfl rfl (ag rfl)) ?_)))
            | (with_reducible refine gAl (t := 241) ?_; (refine list_eff rfl (eff_alloc hm rfl zr241 ?_); clear hm; intro w4 g7 hm))
            | (with_reducible refine gSt (t := 241) ?_; (first | (refine list_eff rfl (eff_store 0 hm rfl rfl (ev_tmp rfl) rfl (ag rfl) rfl (one_lit rfl) ?_); clear hm; intro w5 hm; try simp only [puts, List.cons_append, List.nil_append, List.set, List.eraseIdx, List.setIfInBounds_toArray, List.set_cons_zero, List.set_cons_succ] at hm) | (refine list_eff rfl (eff_put 0 hm rfl rfl (ev_tmp rfl) rfl (ag rfl) (by simp) rfl ?_); clear hm; intro w5 hm; try simp only [puts, List.cons_append, List.nil_append, List.set, List.eraseIdx, List.setIfInBounds_toArray, List.set_cons_zero, List.set_cons_succ] at hm)))
            | (refine wpList_run rfl (lookM2 0 hm rfl rfl rfl rfl Tryz.underlying295 kd241 HK.out HKS.out HIN.out HVV.out) ?_))
        go_roundw
        case rel => exact ⟨k + 1, by omega, by go_num, by rw [HM.out]; exact hm.dropRow⟩
        case measure => simp [intOf]; omega
      · have HIN : Hid (∀ q ∈ pairsOf (mpx (rk s) s k), q.1 ≠ Value.agg #[.int .i64 (gp s k).1, .int .i64 (gp s k).2]) := Lib.hid fun q hq he => by
          obtain ⟨p, hp, rfl⟩ := (mpx_mem (rk s) s k (by omega) q).1 hq
          exact hin (by rw [← show p = gp s k from encP_inj he]; exact hp)
        have HM : Hid (mpx (rk s) s (k + 1) = .agg #[.int .i64 (gp s k).1, .int .i64 (gp s k).2] :: .int .i64 ((pairsOf (mpx (rk s) s k)).length : Nat) :: mpx (rk s) s k) := Lib.hid (by
          rw [mpx_len _ _ _ (by omega), many_rk HSO.out hks hin, mpx, if_neg hin]
          rfl)
        clear hin hmem hbp hks
        generalize (gp s k).1 = a at *
        generalize (gp s k).2 = b at *
        generalize hxs : mpx (rk s) s k = xs at *
        go_wp2_with (first
            | (with_reducible refine gIa (t := 239) ?_; (refine wpList_run rfl (ix rfl HE239.out rfl rfl rfl hlt) ?_))
            | (with_reducible refine gLd (t := 241) ?_; (first | (refine wpList_run rfl (ld2 0 hm rfl rfl rfl (ag rfl) hf0 hf1) ?_) | (refine wpList_run rfl (lda 0 hm rfl rfl rfl (ag rfl)) ?_)))
            | (with_reducible refine gAl (t := 241) ?_; (refine list_eff rfl (eff_alloc hm rfl zr241 ?_); clear hm; intro w4 g7 hm))
            | (with_reducible refine gSt (t := 241) ?_; (first | (refine list_eff rfl (eff_store 0 hm rfl rfl (ev_tmp rfl) rfl (ag rfl) rfl (one_lit rfl) ?_); clear hm; intro w5 hm; try simp only [puts, List.cons_append, List.nil_append, List.set, List.eraseIdx, List.setIfInBounds_toArray, List.set_cons_zero, List.set_cons_succ] at hm) | (refine list_eff rfl (eff_put 0 hm rfl rfl (ev_tmp rfl) rfl (ag rfl) (by simp) rfl ?_); clear hm; intro w5 hm; try simp only [puts, List.cons_append, List.nil_append, List.set, List.eraseIdx, List.setIfInBounds_toArray, List.set_cons_zero, List.set_cons_succ] at hm)))
            | (refine wpList_run rfl (lookN2 0 hm rfl rfl rfl rfl Tryz.underlying295 kd241 HK.out HKS.out HIN.out zr3) ?_)
            | (refine wpList_run rfl (lenM 0 hm rfl rfl rfl Tryz.underlying295) ?_)
            | (refine list_eff rfl (eff_update hm HD.out rfl rfl (ev_tmp rfl) (ev_tmp rfl) Tryz.underlying295 kd241 HK.out HKS.out HIN.out ?_); clear hm; intro w6 hm))
        go_roundw
        case rel => exact ⟨k + 1, by omega, by go_num, by rw [HM.out]; exact hm.dropRow⟩
        case measure => simp [intOf]; omega
    · obtain rfl : k = n := by omega
      have HKS : Hid (∀ q ∈ pairsOf (mpx (rk s) s k), ∃ l, keyOf Tryz.prog 241 q.1 = some l) := Lib.hid fun q hq => by
        obtain ⟨p, hp, rfl⟩ := (mpx_mem (rk s) s k (by rw [HSL.out]; omega) q).1 hq
        have := HB.out p (HP.out.mem_iff.1 (List.mem_of_mem_take hp))
        exact key241 (wf_of this.1 this.2.1) (wf_of this.2.2.1 this.2.2.2)
      have HIN : Hid (∀ p ∈ l, ∃ q ∈ pairsOf (mpx (rk s) s k), q.1 = Value.agg #[.int .i64 p.1, .int .i64 p.2]) := Lib.hid fun p hp => ⟨_, (mpx_mem (rk s) s k (by rw [HSL.out]; omega) _).2 ⟨p, by rw [List.take_of_length_le (by rw [HSL.out]; omega)]; exact HP.out.mem_iff.2 hp, rfl⟩, rfl⟩
      have HVV : Hid (∀ p, ∀ q ∈ pairsOf (mpx (rk s) s k), q.1 = Value.agg #[.int .i64 p.1, .int .i64 p.2] → q.2 = .int .i64 (rk l p : Nat)) := Lib.hid fun p q hq he => by
        obtain ⟨p2, hp, rfl⟩ := (mpx_mem (rk s) s k (by rw [HSL.out]; omega) q).1 hq
        have : p2 = p := encP_inj he
        rw [this, rk_perm HP.out]
      have HLM : Hid ((pairsOf (mpx (rk s) s k)).length = many l) := Lib.hid (by rw [mpx_len _ _ _ (by rw [HSL.out]; omega), List.take_of_length_le (by rw [HSL.out]; omega), many_perm HP.out])
      have hm0 : Own w0 wr ((gl, (flat l).toArray) :: ([] ++ rs)) (mapE r (mpx (rk s) s k) :: ss) := hm.dropRow
      clear hm hlt hk HFS HSO HP HSL
      have hm := hm0
      clear hm0
      generalize mpx (rk s) s k = M at *
      go_wp2
      go_loopw [2, 38] (fun z u wr => ∃ (j : Nat) (X : List (Nat × Array Value)) (a2 : Option Addr) (c2 : Nat), j ≤ k ∧ u = .int .i64 j ∧ z = .slice a2 j c2 ∧ Lies 1 X z j (vs .i64 ((rks l).take j)) ∧ Own w0 wr ((gl, (flat l).toArray) :: (X ++ rs)) (mapE r M :: ss)) (fun _ u _ => k - (intOf u).toNat)
      case atStart => exact ⟨0, [], none, 0, by omega, rfl, rfl, Lies.nil 1, hm⟩
      case round =>
        clear hm
        obtain ⟨j, X, a2, c2, hj, rfl, rfl, hX, hm⟩ := hrel
        have HX := Lib.hid hX
        clear hX
        by_cases hlt : j < k
        · have w3 : IntKind.i64.wrap ((j : Int) + 1) = ((j + 1 : Nat) : Int) := by rw [IntWalk.i64_in _ (by omega)]; push_cast; rfl
          have hjl : j < l.length := by rw [← HNL.out]; exact hlt
          obtain ⟨hf0, hf1⟩ := HFL.out j (by first | exact hlt | exact hjl)
          have hf2 : (flat l).toArray[0 + j * 2]? = some (Value.int .i64 (gp l j).1) := by rw [Nat.zero_add, List.getElem?_toArray]; exact hf0
          have hf3 : (flat l).toArray[0 + j * 2 + 1]? = some (.int .i64 (gp l j).2) := by rw [Nat.zero_add, List.getElem?_toArray]; exact hf1
          have hf4 : (flat l).toArray[j * 2]? = some (.int .i64 (gp l j).1) := by rw [List.getElem?_toArray]; exact hf0
          have hf5 : (flat l).toArray[j * 2 + 1]? = some (.int .i64 (gp l j).2) := by rw [List.getElem?_toArray]; exact hf1
          have hmem : gp l j ∈ l := gp_mem l j hjl
          have hbp := HB.out (gp l j) hmem
          have HK : Hid (∃ y, keyOf Tryz.prog 241 (.agg #[.int .i64 (gp l j).1, .int .i64 (gp l j).2]) = some y) := Lib.hid (key241 (wf_of hbp.1 hbp.2.1) (wf_of hbp.2.2.1 hbp.2.2.2))
          have HIN2 := Lib.hid (HIN.out (gp l j) hmem)
          have HVV2 := Lib.hid (HVV.out (gp l j))
          have HS : Hid (vs .i64 ((rks l).take j) ++ [.int .i64 (rk l (gp l j) : Nat)] = vs .i64 ((rks l).take (j + 1))) := Lib.hid (by rw [take_snoc_gi (rks l) j (by rw [len_rks]; exact hjl), ← vs_app, gi_rks l hjl]; rfl)
          clear hf0 hf1 hmem hbp hjl
          generalize rk l (gp l j) = z at *
          generalize (gp l j).1 = a at *
          generalize (gp l j).2 = b at *
          go_wp2_with (first
              | (with_reducible refine gIa (t := 239) ?_; (refine wpList_run rfl (ix rfl HE239.out rfl rfl rfl hlt) ?_))
              | (with_reducible refine gLd (t := 241) ?_; (first | (refine wpList_run rfl (ld2 0 hm rfl rfl rfl (ag rfl) hf2 hf3) ?_) | (refine wpList_run rfl (ld2 0 hm rfl rfl rfl (ag rfl) hf4 hf5) ?_) | (refine wpList_run rfl (lda 0 hm rfl rfl rfl (ag rfl)) ?_)))
              | (with_reducible refine gAl (t := 241) ?_; (refine list_eff rfl (eff_alloc hm rfl zr241 ?_); clear hm; intro w4 g7 hm))
              | (with_reducible refine gSt (t := 241) ?_; (first | (refine list_eff rfl (eff_store 0 hm rfl rfl (ev_tmp rfl) rfl (ag rfl) rfl (one_lit rfl) ?_); clear hm; intro w5 hm; try simp only [puts, List.cons_append, List.nil_append, List.set, List.eraseIdx, List.setIfInBounds_toArray, List.set_cons_zero, List.set_cons_succ] at hm) | (refine list_eff rfl (eff_put 0 hm rfl rfl (ev_tmp rfl) rfl (ag rfl) (by simp) rfl ?_); clear hm; intro w5 hm; try simp only [puts, List.cons_append, List.nil_append, List.set, List.eraseIdx, List.setIfInBounds_toArray, List.set_cons_zero, List.set_cons_succ] at hm)))
              | (refine wpList_run rfl (lookM 0 hm rfl rfl rfl rfl Tryz.underlying295 kd241 HK.out HKS.out HIN2.out HVV2.out) ?_)
              | (refine list_eff rfl (eff_build1 hm rfl HL.out (ev_tmp rfl) rfl ?_); clear hm; intro w gb hm)
              | (refine list_eff rfl (eff_appendX (A := [_, _, _]) (X := X) hm rfl HE.out (ev_tmp rfl) HX.out (ev_tmp rfl) (fun W h => From.one (h.row 0 rfl)) (one_lit1 rfl) (by omega) (by omega) (by omega) ?_); clear hm; intro X2 v2 w hX2 hm; simp only [List.cons_append, List.nil_append] at hm; replace hm := hm.dropRow.dropRow; obtain ⟨ad2, c3, rfl⟩ := hX2.shape; have HX2 := Lib.hid hX2; clear hX2))
          have HX4 : Hid (Lies 1 X2 (.slice ad2 (j + 1) c3) (j + 1) (vs .i64 ((rks l).take (j + 1)))) := Lib.hid (by rw [← HS.out]; exact HX2.out)
          clear HX2
          go_roundw
          case rel => exact ⟨j + 1, X2, ad2, c3, by omega, by go_num, rfl, HX4.out, hm⟩
          case measure => simp [intOf]; omega
        · obtain rfl : j = k := by omega
          have HT : Hid ((rks l).take j = rks l) := Lib.hid (List.take_of_length_le (by rw [len_rks, ← HNL.out]; omega))
          go_wp2_with (first
              | (refine wpList_run rfl (lenM 0 hm rfl rfl rfl Tryz.underlying295) ?_))
          go_ret2
          exact ⟨X, _, by rw [← HLM.out]; rfl, by rw [← HT.out]; exact HX.out, hm.dropSl⟩
end Go.Proofs.YtkpbhdhkdonghaaGreat

namespace Go.Proofs.YtkpbhdhkdonghaaGreat
open Go Go.RowKit
def tabP (n : Nat) (f : Nat → Pr) : List Pr := (List.range n).map f
theorem len_tabP (n : Nat) (f : Nat → Pr) : (tabP n f).length = n := by simp [tabP]
theorem gp_tabP {n : Nat} (f : Nat → Pr) {i : Nat} (h : i < n) : gp (tabP n f) i = f i := by simp [gp, tabP, h]
theorem tabP_congr {n : Nat} {f g : Nat → Pr} (h : ∀ i, i < n → f i = g i) : tabP n f = tabP n g := List.map_congr_left fun i hi => h i (List.mem_range.1 hi)
theorem tabP_gp (l : List Pr) : tabP l.length (gp l) = l := by
  apply List.ext_getElem
  · simp [tabP]
  · intro i h1 h2
    simp [tabP, gp, h2]
theorem set_tabP {n : Nat} (f : Nat → Pr) (i : Nat) (v : Pr) : (tabP n f).set i v = tabP n fun j => if j = i then v else f j := by
  apply List.ext_getElem?
  intro j
  rw [List.getElem?_set]
  simp only [tabP, List.getElem?_map, List.length_map, List.length_range]
  by_cases hj : j < n
  · rw [List.getElem?_range hj]
    by_cases e : i = j
    · subst e; simp [hj]
    · rw [if_neg e]; simp [show ¬ j = i from fun h => e h.symm]
  · rw [List.getElem?_eq_none (by simpa using hj)]
    by_cases e : i = j
    · subst e; simp [hj]
    · rw [if_neg e]; simp
theorem flat_set1 : ∀ (l : List Pr) (i : Nat) (a : Int), i < l.length → (flat l).set (i * 2) (.int .i64 a) = flat (l.set i (a, (gp l i).2))
  | [], i, a, h => by simp at h
  | p :: l, 0, a, _ => by rw [flat_cons]; rfl
  | p :: l, i + 1, a, h => by
    have ih := flat_set1 l i a (by simpa using h)
    rw [flat_cons, show (i + 1) * 2 = i * 2 + 1 + 1 by omega, List.set_cons_succ, List.set_cons_succ, ih, List.set_cons_succ, flat_cons]
    simp [gp]
theorem flat_set2 : ∀ (l : List Pr) (i : Nat) (b : Int), i < l.length → (flat l).set (i * 2 + 1) (.int .i64 b) = flat (l.set i ((gp l i).1, b))
  | [], i, b, h => by simp at h
  | p :: l, 0, b, _ => by rw [flat_cons]; rfl
  | p :: l, i + 1, b, h => by
    have ih := flat_set2 l i b (by simpa using h)
    rw [flat_cons, show (i + 1) * 2 + 1 = i * 2 + 1 + 1 + 1 by omega, List.set_cons_succ, List.set_cons_succ, ih, List.set_cons_succ, flat_cons]
    simp [gp]
theorem fl_set1 (l : List Pr) (i : Nat) (a : Int) (h : i < l.length) : (flat l).toArray.setIfInBounds (i * 2) (.int .i64 a) = (flat (l.set i (a, (gp l i).2))).toArray := by rw [List.setIfInBounds_toArray, flat_set1 l i a h]
theorem fl_set2 (l : List Pr) (i : Nat) (b : Int) (h : i < l.length) : (flat l).toArray.setIfInBounds (i * 2 + 1) (.int .i64 b) = (flat (l.set i ((gp l i).1, b))).toArray := by rw [List.setIfInBounds_toArray, flat_set2 l i b h]
theorem flat_zeros (n : Nat) : madeCells #[Value.int .i64 0, Value.int .i64 0] (n * 2) = (flat (tabP n fun _ => (0, 0))).toArray := by
  apply Array.ext
  · rw [size_madeCells, List.size_toArray, len_flat, len_tabP]
  · intro i h1 h2
    rw [size_madeCells] at h1
    have h3 := flat_cell (tabP n fun _ => (0, 0)) i (by rw [len_tabP]; exact h1)
    rw [gp_tabP _ (by omega)] at h3
    have h4 : (flat (tabP n fun _ => (0, 0))).toArray[i]? = some ((flat (tabP n fun _ => (0, 0))).toArray[i]) := Array.getElem?_eq_getElem h2
    rw [List.getElem?_toArray, h3] at h4
    rw [← Option.some.inj h4]
    rcases Nat.mod_two_eq_zero_or_one i with e | e <;> simp [madeCells, e, enP]
theorem exec_make2 {P : Program} {w : World} {o : Oper} {a : Act} (n : Nat) {t e : TypeId} {i : TypeInfo} {bytes : Nat} {x y : Operand}
    (ho : o.op = .makeSlice t x y) (he : ElemT P t e 2 bytes i (.agg #[.int .i64 0, .int .i64 0])) (hx : a.eval x = .int .i64 n) (hy : a.eval y = .int .i64 n) (hb : (bytes : Int) * n ≤ 281474976710656) (hn : (n : Int) ≤ 9223372036854775807) :
    (execOp a.eval o).run P w = .ok (.value (.slice (some ⟨w.heap.size, 0, none⟩) n n)) (w.alloc (.cells (flat (tabP n fun _ => (0, 0))).toArray e)) := by
  have hr := run_make (P := P) w t e i _ he.under he.info he.zero .i64 .i64 n n (by omega) (Int.le_refl _) (by rw [he.bytes]; exact hb) hn
  unfold execOp
  rw [he.size, Int.toNat_natCast] at hr
  simp only [Value.cells] at hr
  rw [flat_zeros] at hr
  simp only [ho, hx, hy, Sem.run_bind, hr, Result.andThen_ok, Sem.run_pure]
def begF (t : List Int) (k i : Nat) : Pr := if i < k ∧ i < t.length then (1 + gi t i, 0) else (0, 0)
theorem beg_tab (t : List Int) : beg t = tabP (t.length + 1) (begF t t.length) := by
  apply List.ext_getElem
  · simp [beg, tabP]
  · intro i h1 h2
    rw [len_tabP] at h2
    by_cases h : i < t.length
    · simp [beg, tabP, begF, h, List.getElem_append, gi]
    · obtain rfl : i = t.length := by omega
      simp [beg, tabP, begF]
def twoF (r : List Int) (w i : Nat) : Pr := (gi r i, if i + w < r.length then gi r (i + w) else -1)
theorem two_tab (r : List Int) (w : Nat) : two r w = tabP r.length (twoF r w) := rfl
theorem go2_stop (f w : Nat) (l : List Pr) (h : ¬ many l < l.length) : go2 f w l = rks l := by
  cases f with
  | zero => rfl
  | succ f => rw [go2, if_neg h]
theorem rks_bd (l : List Pr) (i : Nat) : 0 ≤ gi (rks l) i ∧ gi (rks l) i ≤ l.length := by
  by_cases h : i < l.length
  · rw [gi_rks l h]
    have := rk_bound (gp_mem l i h)
    have := many_le l
    omega
  · have : gi (rks l) i = 0 := by simp [gi, rks, h]
    omega
end Go.Proofs.YtkpbhdhkdonghaaGreat

namespace Go.Proofs.YtkpbhdhkdonghaaGreat
open Go Go.RowKit
open Go.Sort
theorem Own.drop3 {w0 w : World} {p q : Nat × Array Value} {X rs : List (Nat × Array Value)} {ss : List Sl} (h : Own w0 w (p :: (X ++ (q :: rs))) ss) : Own w0 w (p :: (X ++ rs)) ss := h.sub (List.Sublist.cons_cons _ ((List.Sublist.refl X).append (List.sublist_cons_self q rs))) (List.Sublist.refl _)
set_option maxRecDepth 100000 in
set_option maxHeartbeats 2000000 in
theorem ranks_any (v : Value) (t : List Int) (w0 w : World) (rs : List (Nat × Array Value)) (ss : List Sl) (hm : Own w0 w rs ss) (hv : ∀ W, Own w0 W rs ss → In .u8 W v t) (hb : Bytes t) (hn : t.length ≤ 100000) : Calls Tryz.prog 121 #[v] w (SlPosI w0 (rnk t) rs ss) := by
  obtain ⟨ad, cp, rfl, _⟩ := hv w hm
  have HC : Hid (∀ W, Own w0 W rs ss → ∀ k, k < t.length → ∃ A, ad = some A ∧ W.cell? (A.add k) = some (.int .u8 (gi t k))) := Lib.hid fun W h k hk => by
    obtain ⟨ad2, cp2, he, hc⟩ := hv W h
    cases he
    exact hc k hk
  have CR : Hid (∀ (gl : Nat) (l : List Pr) (W : World) (rt : List (Nat × Array Value)), Own w0 W ((gl, (flat l).toArray) :: rt) ss → (∀ p ∈ l, -1 ≤ p.1 ∧ p.1 ≤ 2000000 ∧ -1 ≤ p.2 ∧ p.2 ≤ 2000000) → l.length = (t.length + 1) → Calls Tryz.prog 165 #[.slice (some ⟨gl, 0, none⟩) (t.length + 1) (t.length + 1)] W fun e w' => ∃ X v, e = .returned (.tuple #[v, .int .i64 (many l)]) ∧ Lies 1 X v (t.length + 1) (vs .i64 (rks l)) ∧ Own w0 w' ((gl, (flat l).toArray) :: (X ++ rt)) ss) := Lib.hid fun gl l W rt h h1 h2 => by
    have := ranked_any gl l w0 W rt ss h h1 (by omega) (by omega)
    rw [h2] at this
    exact this
  obtain ⟨i1, hE1⟩ := em239
  have HE239 := Lib.hid hE1
  obtain ⟨i2, hE2⟩ := em124
  have HE := Lib.hid hE2
  obtain ⟨i3, hE3⟩ := el24
  have HB5 := Lib.hid hE3
  have HB := Lib.hid hb
  have HST : Hid (Stg t 1 (beg t)) := Lib.hid (Stg.first fun x hx => (hb x hx).1)
  have HNX : Hid (∀ wd l, Stg t wd l → Stg t (wd * 2) (two (rks l) wd)) := Lib.hid fun wd l h => h.next fun x hx => (hb x hx).1
  have HDN : Hid (∀ wd l, Stg t wd l → t.length < wd → many l = l.length) := Lib.hid fun wd l h h2 => h.done (fun x hx => (hb x hx).1) h2
  have wl : IntKind.i64.wrap ((t.length : Int) + 1) = (((t.length + 1) : Nat) : Int) := by rw [IntWalk.i64_in _ (by omega)]; push_cast; rfl
  obtain ⟨o, ho⟩ : ∃ o, o = rnk t := ⟨_, rfl⟩
  rw [← ho]
  have HO : Hid (o = go2 (t.length + 1) 1 (beg t)) := Lib.hid ho
  clear hE1 hE2 hE3 hb hv ho
  go_enter Tryz.func121, Tryz.ntmps121
  go_wp2_with (first
    | (with_reducible refine gMs (t := 239) ?_; (refine wpList_run rfl (exec_make2 (t.length + 1) rfl HE239.out rfl rfl (by omega) (by omega)) ?_; have hm1 := hm.alloc (flat (tabP (t.length + 1) fun _ => (0, 0))).toArray 241; clear hm; have hm := hm1; clear hm1; generalize hgl : w.heap.size = gl at hm ⊢; generalize hw2 : World.alloc w _ = w2 at hm ⊢)))
  have hm0 : Own w0 w2 ((gl, (flat (tabP (t.length + 1) (begF t 0))).toArray) :: rs) ss := by
    rw [tabP_congr (f := begF t 0) (g := fun _ => (0, 0)) (fun i _ => by rw [begF, if_neg (by omega)])]
    exact hm
  clear hm
  have hm := hm0
  clear hm0
  go_loopw [16] (fun u wr => ∃ k : Nat, k ≤ t.length ∧ u = .int .i64 k ∧ Own w0 wr ((gl, (flat (tabP (t.length + 1) (begF t k))).toArray) :: rs) ss) (fun u _ => t.length - (intOf u).toNat)
  case atStart => exact ⟨0, by omega, rfl, hm⟩
  case round =>
    clear hm
    obtain ⟨k, hk, rfl, hm⟩ := hrel
    by_cases hlt : k < t.length
    · have hs := HB.out (gi t k) (by rw [gi_eq t k hlt]; exact List.getElem_mem _)
      obtain ⟨A, rfl, hA0⟩ := HC.out _ hm.dropRow k hlt
      obtain ⟨x, hx⟩ := Int.eq_ofNat_of_zero_le hs.1
      have hcell : wr.cell? (A.add k) = some (.int .u8 x) := by rw [← hx]; exact hA0
      have hx1 : x < 256 := by omega
      have hlt1 : k < (t.length + 1) := by omega
      have w1 : IntKind.i64.wrap (x : Int) = x := IntWalk.i64_in _ (by omega)
      have w2' : IntKind.i64.wrap (1 + (x : Int)) = 1 + (x : Int) := IntWalk.i64_in _ (by omega)
      have w3 : IntKind.i64.wrap ((k : Int) + 1) = ((k + 1 : Nat) : Int) := by rw [IntWalk.i64_in _ (by omega)]; push_cast; rfl
      have hP : (flat (tabP (t.length + 1) (begF t k))).toArray.setIfInBounds (k * 2) (.int .i64 (1 + (x : Int))) = (flat (tabP (t.length + 1) (begF t (k + 1)))).toArray := by
        rw [fl_set1 _ _ _ (by rw [len_tabP]; exact hlt1), gp_tabP _ hlt1, set_tabP, tabP_congr (g := begF t (k + 1)) (fun j _ => by
          by_cases e : j = k
          · subst e; rw [if_pos rfl, begF, begF, if_neg (by omega), if_pos (by omega), hx]
          · rw [if_neg e, begF, begF]
            by_cases e2 : j < k ∧ j < t.length
            · rw [if_pos e2, if_pos (by omega)]
            · rw [if_neg e2, if_neg (by omega)])]
      have HP := Lib.hid hP
      have HP0 : Hid ((flat (tabP (t.length + 1) (begF t k))).toArray.setIfInBounds (0 + k * 2) (.int .i64 (1 + (x : Int))) = (flat (tabP (t.length + 1) (begF t (k + 1)))).toArray) := Lib.hid (by rw [Nat.zero_add]; exact hP)
      have HSZ : Hid (k * 2 < (flat (tabP (t.length + 1) (begF t k))).toArray.size) := Lib.hid (by rw [List.size_toArray, len_flat, len_tabP]; omega)
      have HSZ0 : Hid (0 + k * 2 < (flat (tabP (t.length + 1) (begF t k))).toArray.size) := Lib.hid (by rw [Nat.zero_add]; exact HSZ.out)
      clear hA0 hs hx hP
      generalize (flat (tabP (t.length + 1) (begF t k))).toArray = T1 at *
      generalize hT2 : (flat (tabP (t.length + 1) (begF t (k + 1)))).toArray = T2 at *
      go_wp2_with (first
          | (with_reducible refine gIa (t := 22) ?_; (refine wpList_run rfl (exec_indexAddr_sl rfl HB5.out rfl rfl rfl hlt) ?_))
          | (with_reducible refine gLd (t := 5) ?_; (refine wpList_run rfl (exec_loadaddr rfl rfl one5 hcell) ?_))
          | (with_reducible refine gIa (t := 239) ?_; (refine wpList_run rfl (ix rfl HE239.out rfl rfl rfl hlt1) ?_))
          | (with_reducible refine gSt (t := 3) ?_; (refine list_eff rfl (eff_cell 0 hm rfl rfl (ev_tmp rfl) rfl (ot rfl) (by first | exact HSZ.out | exact HSZ0.out) rfl rfl (by first | exact HP.out | exact HP0.out) ?_); clear hm; intro w hm; try simp only [puts, List.cons_append, List.nil_append, List.set] at hm)))
      go_roundw
      case rel => exact ⟨k + 1, by omega, by go_num, by rw [hT2]; exact hm⟩
      case measure => simp [intOf]; omega
    · obtain rfl : t.length = k := by omega
      have hm0 : Own w0 wr ((gl, (flat (beg t)).toArray) :: rs) ss := by rw [beg_tab]; exact hm
      clear hm
      have hm := hm0
      clear hm0
      have HLB : Hid ((beg t).length = (t.length + 1)) := Lib.hid HST.out.len
      have HBB : Hid (∀ p ∈ beg t, -1 ≤ p.1 ∧ p.1 ≤ 2000000 ∧ -1 ≤ p.2 ∧ p.2 ≤ 2000000) := Lib.hid fun p hp => by
        rw [beg] at hp
        rcases List.mem_append.1 hp with hp | hp
        · obtain ⟨c, hc, rfl⟩ := List.mem_map.1 hp
          have := HB.out c hc
          simp only
          omega
        · obtain rfl := List.mem_singleton.1 hp
          simp
      clear hlt hk
      go_wp2_with (first
          | (go_at_call 165; have _t := hm; refine (CR.out _ _ _ _ hm HBB.out HLB.out).mono ?_; clear _t; clear hm; rintro e w3 ⟨X1, v1, rfl, hX, hm⟩; have HX1 := Lib.hid hX; clear hX))
      obtain ⟨a1, c1, rfl⟩ := HX1.out.shape
      go_loopw [6, 7, 8] (fun z y u wr => ∃ (f wd : Nat) (l : List Pr) (X : List (Nat × Array Value)) (a2 : Option Addr) (c2 : Nat), 1 ≤ wd ∧ wd ≤ 2 * t.length + 1 ∧ t.length < wd + f ∧ Stg t wd l ∧ o = go2 f wd l ∧ u = .int .i64 wd ∧ y = .int .i64 (many l) ∧ z = .slice a2 (t.length + 1) c2 ∧ Lies 1 X z (t.length + 1) (vs .i64 (rks l)) ∧ Own w0 wr ((gl, (flat l).toArray) :: (X ++ rs)) ss) (fun _ _ u _ => 2 * t.length + 2 - (intOf u).toNat)
      case atStart => exact ⟨t.length + 1, 1, beg t, X1, a1, c1, by omega, by omega, by omega, HST.out, HO.out, rfl, rfl, rfl, HX1.out, hm⟩
      case round =>
        clear hm HX1
        obtain ⟨f, wd, l, X, a2, c2, h1, h2, h3, hst, ho, rfl, rfl, rfl, hX, hm⟩ := hrel
        have hll := hst.len
        by_cases hlt : many l < (t.length + 1)
        · have q0 : decide ((many l : Int) < (((t.length + 1) : Nat) : Int)) = true := decide_eq_true (by omega)
          have q0b : decide ((many l : Int) < (t.length : Int) + 1) = true := decide_eq_true (by omega)
          have q0c : decide (many l < (t.length + 1)) = true := decide_eq_true hlt
          have hwd : wd ≤ t.length := by
            rcases Nat.lt_or_ge t.length wd with h | h
            · have := HDN.out wd l hst h; omega
            · exact h
          obtain ⟨f, rfl⟩ : ∃ f', f = f' + 1 := ⟨f - 1, by omega⟩
          have HN : Hid (o = go2 f (wd * 2) (two (rks l) wd)) := Lib.hid (by rw [ho, go2, if_pos (by omega)])
          have HS2 := Lib.hid (HNX.out wd l hst)
          obtain ⟨gx, px, cx, cellsx, rfl, he, hcx, _, _, hcells⟩ := hX.pos (by omega)
          cases he
          have HGR : Hid (∀ i, i < (t.length + 1) → cellsx[px + i]? = some (.int .i64 (gi (rks l) i))) := Lib.hid fun i hi => by
            rw [hcells i (by rw [length_vs, len_rks, hll]; exact hi), get_vs _ _ i (by rw [len_rks, hll]; exact hi)]
          have HRL : Hid ((rks l).length = (t.length + 1)) := Lib.hid (by rw [len_rks, hll])
          have HRB := Lib.hid (rks_bd l)
          have HLL := Lib.hid hll
          have wsh : IntKind.i64.wrap ((wd : Int) * 2) = ((wd * 2 : Nat) : Int) := by rw [IntWalk.i64_in _ (by omega)]; push_cast; rfl
          have hm0 : Own w0 wr ((gl, (flat (tabP (t.length + 1) (fun j => if j < 0 then twoF (rks l) wd j else gp l j))).toArray) :: (gx, cellsx) :: rs) ss := by
            rw [tabP_congr (g := gp l) (fun j _ => by rw [if_neg (by omega)]), ← hll, tabP_gp]
            exact hm
          clear hm hX hcells ho hst hll
          have hm := hm0
          clear hm0
          go_wp2
          go_loopw [42] (fun u wr => ∃ i : Nat, i ≤ (t.length + 1) ∧ u = .int .i64 i ∧ Own w0 wr ((gl, (flat (tabP (t.length + 1) (fun j => if j < i then twoF (rks l) wd j else gp l j))).toArray) :: (gx, cellsx) :: rs) ss) (fun u _ => (t.length + 1) - (intOf u).toNat)
          case atStart => exact ⟨0, by omega, rfl, hm⟩
          case round =>
            clear hm
            obtain ⟨i, hi, rfl, hm⟩ := hrel
            by_cases hil : i < (t.length + 1)
            · have p0 : decide ((i : Int) < (((t.length + 1) : Nat) : Int)) = true := decide_eq_true (by omega)
              have p0b : decide ((i : Int) < (t.length : Int) + 1) = true := decide_eq_true (by omega)
              have p0c : decide (i < (t.length + 1)) = true := decide_eq_true hil
              have w3 : IntKind.i64.wrap ((i : Int) + 1) = ((i + 1 : Nat) : Int) := by rw [IntWalk.i64_in _ (by omega)]; push_cast; rfl
              have w4 : IntKind.i64.wrap ((i : Int) + (wd : Int)) = ((i + wd : Nat) : Int) := by rw [IntWalk.i64_in _ (by omega)]; push_cast; rfl
              have HG := Lib.hid (HGR.out i hil)
              have HPUT : Hid (∀ b, puts (flat (tabP (t.length + 1) (fun j => if j < i then twoF (rks l) wd j else gp l j))).toArray (i * 2) [.int .i64 (gi (rks l) i), .int .i64 b] = (flat ((tabP (t.length + 1) (fun j => if j < i then twoF (rks l) wd j else gp l j)).set i (gi (rks l) i, b))).toArray) := Lib.hid fun b => by
                simp only [puts]
                rw [fl_set1 _ _ _ (by rw [len_tabP]; exact hil), fl_set2 _ _ _ (by rw [List.length_set, len_tabP]; exact hil), List.set_set]
                congr 2
                simp [gp, hil, len_tabP]
              have HPN : Hid (∀ b, b = (twoF (rks l) wd i).2 → (tabP (t.length + 1) (fun j => if j < i then twoF (rks l) wd j else gp l j)).set i (gi (rks l) i, b) = tabP (t.length + 1) (fun j => if j < i + 1 then twoF (rks l) wd j else gp l j)) := Lib.hid fun b hb => by
                rw [set_tabP]
                refine tabP_congr fun j _ => ?_
                by_cases e : j = i
                · subst e; rw [if_pos rfl, if_pos (by omega), hb]; rfl
                · rw [if_neg e]
                  by_cases e2 : j < i
                  · rw [if_pos e2, if_pos (by omega)]
                  · rw [if_neg e2, if_neg (by omega)]
              have HPUT0 : Hid (puts (flat (tabP (t.length + 1) (fun j => if j < i then twoF (rks l) wd j else gp l j))).toArray (0 + i * 2) [.int .i64 (gi (rks l) i), .int .i64 (-1)] = (flat ((tabP (t.length + 1) (fun j => if j < i then twoF (rks l) wd j else gp l j)).set i (gi (rks l) i, -1))).toArray) := Lib.hid (by rw [Nat.zero_add]; exact HPUT.out (-1))
              have HPUT1 := Lib.hid (HPUT.out (-1))
              have HSZ : Hid (i * 2 + 2 ≤ (flat (tabP (t.length + 1) (fun j => if j < i then twoF (rks l) wd j else gp l j))).toArray.size) := Lib.hid (by rw [List.size_toArray, len_flat, len_tabP]; omega)
              have HSZ0 : Hid (0 + i * 2 + 2 ≤ (flat (tabP (t.length + 1) (fun j => if j < i then twoF (rks l) wd j else gp l j))).toArray.size) := Lib.hid (by rw [Nat.zero_add]; exact HSZ.out)
              by_cases hin : i + wd < (t.length + 1)
              · have s0 : decide (((i + wd : Nat) : Int) < (((t.length + 1) : Nat) : Int)) = true := decide_eq_true (by omega)
                have s0b : decide ((i : Int) + (wd : Int) < (t.length : Int) + 1) = true := decide_eq_true (by omega)
                have s0c : decide (i + wd < (t.length + 1)) = true := decide_eq_true hin
                have HG2 := Lib.hid (HGR.out (i + wd) hin)
                have HP2 : Hid ((flat ((tabP (t.length + 1) (fun j => if j < i then twoF (rks l) wd j else gp l j)).set i (gi (rks l) i, -1))).toArray.setIfInBounds (i * 2 + 1) (.int .i64 (gi (rks l) (i + wd))) = (flat (tabP (t.length + 1) (fun j => if j < i + 1 then twoF (rks l) wd j else gp l j))).toArray) := Lib.hid (by
                  rw [fl_set2 _ _ _ (by rw [List.length_set, len_tabP]; exact hil), List.set_set, ← HPN.out (gi (rks l) (i + wd)) (by rw [twoF, HRL.out, if_pos hin])]
                  congr 2
                  simp [gp, hil, len_tabP])
                have HP20 : Hid ((flat ((tabP (t.length + 1) (fun j => if j < i then twoF (rks l) wd j else gp l j)).set i (gi (rks l) i, -1))).toArray.setIfInBounds (0 + i * 2 + 1) (.int .i64 (gi (rks l) (i + wd))) = (flat (tabP (t.length + 1) (fun j => if j < i + 1 then twoF (rks l) wd j else gp l j))).toArray) := Lib.hid (by rw [Nat.zero_add]; exact HP2.out)
                have HZ2 : Hid (i * 2 + 1 < (flat ((tabP (t.length + 1) (fun j => if j < i then twoF (rks l) wd j else gp l j)).set i (gi (rks l) i, -1))).toArray.size) := Lib.hid (by rw [List.size_toArray, len_flat, List.length_set, len_tabP]; omega)
                have HZ20 : Hid (0 + i * 2 + 1 < (flat ((tabP (t.length + 1) (fun j => if j < i then twoF (rks l) wd j else gp l j)).set i (gi (rks l) i, -1))).toArray.size) := Lib.hid (by rw [Nat.zero_add]; exact HZ2.out)
                clear HPN HPUT
                generalize (flat (tabP (t.length + 1) (fun j => if j < i then twoF (rks l) wd j else gp l j))).toArray = T1 at *
                generalize (flat ((tabP (t.length + 1) (fun j => if j < i then twoF (rks l) wd j else gp l j)).set i (gi (rks l) i, -1))).toArray = T2 at *
                generalize hT3 : (flat (tabP (t.length + 1) (fun j => if j < i + 1 then twoF (rks l) wd j else gp l j))).toArray = T3 at *
                generalize gi (rks l) i = a at *
                generalize gi (rks l) (i + wd) = b at *
                go_wp2_with (first
                    | (with_reducible refine gIa (t := 124) ?_; (first | (refine wpList_run rfl (ix1 (k := i) rfl HE.out rfl rfl rfl hil) ?_) | (refine wpList_run rfl (ix1 (k := i + wd) rfl HE.out rfl rfl rfl hin) ?_)))
                    | (with_reducible refine gIa (t := 239) ?_; (refine wpList_run rfl (ix (k := i) rfl HE239.out rfl rfl rfl hil) ?_))
                    | (with_reducible refine gLd (t := 3) ?_; (refine wpList_run rfl (ld 1 hm rfl rfl rfl (ot rfl) (by first | exact HG.out | exact HG2.out)) ?_))
                    | (with_reducible refine gSt (t := 241) ?_; (refine list_eff rfl (eff_put 0 hm (vs := [.int .i64 a, .int .i64 (-1)]) rfl rfl (ev_tmp rfl) rfl (ag rfl) (by have h9 := HSZ.out; simp only [List.length_cons, List.length_nil]; omega) rfl ?_); clear hm; intro w5 hm; simp only [List.set] at hm; first | rw [HPUT1.out] at hm | rw [HPUT0.out] at hm))
                    | (with_reducible refine gSt (t := 3) ?_; (refine list_eff rfl (eff_cell 0 hm rfl rfl (ev_tmp rfl) rfl (ot rfl) (by first | exact HZ2.out | exact HZ20.out) rfl rfl (by first | exact HP2.out | exact HP20.out) ?_); clear hm; intro w hm; try simp only [puts, List.cons_append, List.nil_append, List.set] at hm)))
                go_roundw
                case rel => exact ⟨i + 1, by omega, by go_num, by rw [hT3]; exact hm⟩
                case measure => simp [intOf]; omega
              · have s0 : decide (((i + wd : Nat) : Int) < (((t.length + 1) : Nat) : Int)) = false := decide_eq_false (by omega)
                have s0b : decide ((i : Int) + (wd : Int) < (t.length : Int) + 1) = false := decide_eq_false (by omega)
                have s0c : decide (i + wd < (t.length + 1)) = false := decide_eq_false hin
                have HP2 : Hid ((flat ((tabP (t.length + 1) (fun j => if j < i then twoF (rks l) wd j else gp l j)).set i (gi (rks l) i, -1))).toArray = (flat (tabP (t.length + 1) (fun j => if j < i + 1 then twoF (rks l) wd j else gp l j))).toArray) := Lib.hid (by rw [HPN.out (-1) (by rw [twoF, HRL.out, if_neg hin])])
                clear HPN HPUT
                generalize (flat (tabP (t.length + 1) (fun j => if j < i then twoF (rks l) wd j else gp l j))).toArray = T1 at *
                generalize (flat ((tabP (t.length + 1) (fun j => if j < i then twoF (rks l) wd j else gp l j)).set i (gi (rks l) i, -1))).toArray = T2 at *
                generalize hT3 : (flat (tabP (t.length + 1) (fun j => if j < i + 1 then twoF (rks l) wd j else gp l j))).toArray = T3 at *
                generalize gi (rks l) i = a at *
                go_wp2_with (first
                    | (with_reducible refine gIa (t := 124) ?_; (refine wpList_run rfl (ix1 (k := i) rfl HE.out rfl rfl rfl hil) ?_))
                    | (with_reducible refine gIa (t := 239) ?_; (refine wpList_run rfl (ix (k := i) rfl HE239.out rfl rfl rfl hil) ?_))
                    | (with_reducible refine gLd (t := 3) ?_; (refine wpList_run rfl (ld 1 hm rfl rfl rfl (ot rfl) HG.out) ?_))
                    | (with_reducible refine gSt (t := 241) ?_; (refine list_eff rfl (eff_put 0 hm (vs := [.int .i64 a, .int .i64 (-1)]) rfl rfl (ev_tmp rfl) rfl (ag rfl) (by have h9 := HSZ.out; simp only [List.length_cons, List.length_nil]; omega) rfl ?_); clear hm; intro w5 hm; simp only [List.set] at hm; first | rw [HPUT1.out] at hm | rw [HPUT0.out] at hm)))
                go_roundw
                case rel => exact ⟨i + 1, by omega, by go_num, by rw [hT3, ← HP2.out]; exact hm⟩
                case measure => simp [intOf]; omega
            · obtain rfl : i = (t.length + 1) := by omega
              have p0 : decide ((((t.length + 1) : Nat) : Int) < (((t.length + 1) : Nat) : Int)) = false := decide_eq_false (by omega)
              have p0b : decide ((t.length : Int) + 1 < (t.length : Int) + 1) = false := decide_eq_false (by omega)
              have hm0 : Own w0 wr ((gl, (flat (two (rks l) wd)).toArray) :: (gx, cellsx) :: rs) ss := by
                rw [two_tab, HRL.out, ← tabP_congr (f := fun j => if j < (t.length + 1) then twoF (rks l) wd j else gp l j) (fun j hj => by rw [if_pos hj])]
                exact hm
              have HBL : Hid ((two (rks l) wd).length = (t.length + 1)) := Lib.hid (by rw [len_two]; exact HRL.out)
              have HBT : Hid (∀ p ∈ two (rks l) wd, -1 ≤ p.1 ∧ p.1 ≤ 2000000 ∧ -1 ≤ p.2 ∧ p.2 ≤ 2000000) := Lib.hid fun p hp => by
                obtain ⟨j, _, rfl⟩ := List.mem_map.1 hp
                have b1 := HRB.out j
                have b2 := HRB.out (j + wd)
                have := HLL.out
                simp only
                split <;> omega
              clear hm hil hi
              have hm := hm0
              clear hm0
              go_wp2_with (first
                  | (go_at_call 165; have _t := hm; refine (CR.out _ _ _ _ hm HBT.out HBL.out).mono ?_; clear _t; clear hm; rintro e w3 ⟨X3, v3, rfl, hX, hm⟩; have HX3 := Lib.hid hX; clear hX; replace hm := hm.drop3))
              obtain ⟨a3, c3, rfl⟩ := HX3.out.shape
              go_roundw
              case rel => exact ⟨f, wd * 2, two (rks l) wd, X3, a3, c3, by omega, by omega, by omega, HS2.out, HN.out, by go_num, rfl, rfl, HX3.out, hm⟩
              case measure => simp [intOf]; omega
        · have q0 : decide ((many l : Int) < (((t.length + 1) : Nat) : Int)) = false := decide_eq_false (by omega)
          have q0b : decide ((many l : Int) < (t.length : Int) + 1) = false := decide_eq_false (by omega)
          have q0c : decide (many l < (t.length + 1)) = false := decide_eq_false hlt
          have HN : Hid (o = rks l) := Lib.hid (by rw [ho, go2_stop _ _ _ (by omega)])
          have HX := Lib.hid hX
          have HLL := Lib.hid hll
          clear hX ho hst hll
          go_wp2
          go_ret
          exact ⟨X, _, rfl, by rw [HN.out, len_rks, HLL.out]; exact HX.out, hm.dropRow⟩
end Go.Proofs.YtkpbhdhkdonghaaGreat

namespace Go.Proofs.YtkpbhdhkdonghaaGreat
open Go Go.RowKit
theorem J_zeros (n : Nat) : (List.replicate n (Value.int .i64 0)).toArray = J .i64 (List.replicate n 0) := by simp [J, vs]
set_option maxRecDepth 100000 in
set_option maxHeartbeats 2000000 in
theorem order_any (v : Value) (t : List Int) (w0 w : World) (rs : List (Nat × Array Value)) (ss : List Sl) (hm : Own w0 w rs ss) (hv : ∀ W, Own w0 W rs ss → In .u8 W v t) (hb : Bytes t) (hn : t.length ≤ 100000) : Calls Tryz.prog 75 #[v] w (SlPosI w0 (ordr (rnk t)) rs ss) := by
  have CR : Hid (∀ W, Own w0 W rs ss → Calls Tryz.prog 121 #[v] W (SlPosI w0 (rnk t) rs ss)) := Lib.hid fun W h => ranks_any v t w0 W rs ss h hv hb hn
  have hR := rnk_ok (t := t) fun x hx => (hb x hx).1
  have HRL : Hid ((rnk t).length = (t.length + 1)) := Lib.hid hR.len
  have HRB : Hid (∀ i, i ≤ t.length → 0 ≤ gi (rnk t) i ∧ gi (rnk t) i ≤ t.length) := Lib.hid fun i hi => ⟨hR.low i hi, hR.high hi⟩
  obtain ⟨ad, cp, rfl, _⟩ := hv w hm
  have HC : Hid (∀ W, Own w0 W rs ss → ∀ k, k < t.length → ∃ A, ad = some A ∧ W.cell? (A.add k) = some (.int .u8 (gi t k))) := Lib.hid fun W h k hk => by
    obtain ⟨ad2, cp2, he, hc⟩ := hv W h
    cases he
    exact hc k hk
  obtain ⟨i2, hE2⟩ := em124
  have HE := Lib.hid hE2
  obtain ⟨i3, hE3⟩ := el39
  have HL := Lib.hid hE3
  clear hE2 hE3 hb hv hR HC
  generalize rnk t = r at *
  go_enter Tryz.func75, Tryz.ntmps75
  go_wp2_with (first
    | (go_at_call 121; have _t := hm; refine (CR.out _ hm).mono ?_; clear _t; clear hm; rintro e w1 ⟨X, v1, rfl, hX, hm⟩; rw [HRL.out] at hX; obtain ⟨gx, px, cx, cellsx, rfl, rfl, hcx, _, hxl, hcells⟩ := hX.pos (by omega); have HGR : Hid (∀ i, i < (t.length + 1) → cellsx[px + i]? = some (.int .i64 (gi r i))) := Lib.hid fun i hi => (by rw [hcells i (by rw [length_vs, HRL.out]; exact hi), get_vs _ _ i (by rw [HRL.out]; exact hi)]); clear hX hcells hxl hcx)
    | (with_reducible refine gMs (t := 124) ?_; (refine wpList_make_o (t.length + 1) hm rfl rfl HL.out rfl rfl (by omega) (by omega) ?_; clear hm; intro w2 g hm)))
  have hm0 : Own w0 w2 ((g, J .i64 (ordk r 0)) :: (gx, cellsx) :: rs) ss := by
    rw [ordk, HRL.out, ← J_zeros]
    exact hm
  clear hm
  have hm := hm0
  clear hm0
  go_loopw [14] (fun u wr => ∃ k : Nat, k ≤ (t.length + 1) ∧ u = .int .i64 k ∧ Own w0 wr ((g, J .i64 (ordk r k)) :: (gx, cellsx) :: rs) ss) (fun u _ => (t.length + 1) - (intOf u).toNat)
  case atStart => exact ⟨0, by omega, rfl, hm⟩
  case round =>
    clear hm
    obtain ⟨k, hk, rfl, hm⟩ := hrel
    by_cases hlt : k < (t.length + 1)
    · have p0 : decide ((k : Int) < (((t.length + 1) : Nat) : Int)) = true := decide_eq_true (by omega)
      have p0b : decide ((k : Int) < (t.length : Int) + 1) = true := decide_eq_true (by omega)
      have p0c : decide (k < (t.length + 1)) = true := decide_eq_true hlt
      have w3 : IntKind.i64.wrap ((k : Int) + 1) = ((k + 1 : Nat) : Int) := by rw [IntWalk.i64_in _ (by omega)]; push_cast; rfl
      have hbd := HRB.out k (by omega)
      obtain ⟨q, hq⟩ := Int.eq_ofNat_of_zero_le hbd.1
      have hql : q < (t.length + 1) := by omega
      have HG : Hid (cellsx[px + k]? = some (.int .i64 q)) := Lib.hid (by rw [← hq]; exact HGR.out k hlt)
      have HP : Hid ((J .i64 (ordk r k)).setIfInBounds q (.int .i64 k) = J .i64 (ordk r (k + 1))) := Lib.hid (by rw [set_J, ordk, hq, Int.toNat_natCast])
      have HP0 : Hid ((J .i64 (ordk r k)).setIfInBounds (0 + q) (.int .i64 k) = J .i64 (ordk r (k + 1))) := Lib.hid (by rw [Nat.zero_add]; exact HP.out)
      have HSZ : Hid (q < (J .i64 (ordk r k)).size) := Lib.hid (by rw [size_J, len_ordk, HRL.out]; exact hql)
      have HSZ0 : Hid (0 + q < (J .i64 (ordk r k)).size) := Lib.hid (by rw [Nat.zero_add]; exact HSZ.out)
      clear hbd hq
      generalize hT2 : J .i64 (ordk r (k + 1)) = T2 at *
      generalize J .i64 (ordk r k) = T1 at *
      go_wp2_with (first
          | (with_reducible refine gIa (t := 124) ?_; (first | (refine wpList_run rfl (ix1 (k := k) rfl HE.out rfl rfl rfl hlt) ?_) | (refine wpList_run rfl (ix1 (k := q) rfl HE.out rfl rfl rfl hql) ?_)))
          | (with_reducible refine gLd (t := 3) ?_; (refine wpList_run rfl (ld 1 hm rfl rfl rfl (ot rfl) HG.out) ?_))
          | (with_reducible refine gSt (t := 3) ?_; (refine list_eff rfl (eff_cell 0 hm rfl rfl (ev_tmp rfl) rfl (ot rfl) (by first | exact HSZ.out | exact HSZ0.out) rfl rfl (by first | exact HP.out | exact HP0.out) ?_); clear hm; intro w hm; try simp only [puts, List.cons_append, List.nil_append, List.set] at hm)))
      go_roundw
      case rel => exact ⟨k + 1, by omega, by go_num, by rw [hT2]; exact hm⟩
      case measure => simp [intOf]; omega
    · obtain rfl : k = (t.length + 1) := by omega
      have p0 : decide ((((t.length + 1) : Nat) : Int) < (((t.length + 1) : Nat) : Int)) = false := decide_eq_false (by omega)
      have p0b : decide ((t.length : Int) + 1 < (t.length : Int) + 1) = false := decide_eq_false (by omega)
      have HJ : Hid (ordk r (t.length + 1) = ordr r) := Lib.hid (by rw [ordr, HRL.out])
      have HLO : Hid ((ordr r).length = (t.length + 1)) := Lib.hid (by rw [ordr, len_ordk, HRL.out])
      go_wp2
      go_ret
      refine ⟨[(g, J .i64 (ordr r))], _, rfl, ?_, ?_⟩
      · rw [HLO.out]
        exact Lies.whole (by rw [length_vs, HLO.out, Nat.mul_one])
      · rw [← HJ.out]
        exact hm.sub (List.Sublist.cons_cons _ (List.sublist_cons_self _ _)) (List.Sublist.refl _)
end Go.Proofs.YtkpbhdhkdonghaaGreat

namespace Go.Proofs.YtkpbhdhkdonghaaGreat
open Go Go.RowKit
set_option maxRecDepth 100000 in
set_option maxHeartbeats 2000000 in
theorem turn_any (v : Value) (t : List Int) (w0 w : World) (rs : List (Nat × Array Value)) (ss : List Sl) (hm : Own w0 w rs ss) (hv : ∀ W, Own w0 W rs ss → In .u8 W v t) (hb : Bytes t) (hn : t.length ≤ 100000) : Calls Tryz.prog 32 #[v] w fun e w' => ∃ X v2, e = .returned (.tuple #[v2, .int .i64 (bwi t)]) ∧ Lies 1 X v2 t.length (vs .u8 (bwl t)) ∧ Own w0 w' (X ++ rs) ss := by
  have CO : Hid (∀ W, Own w0 W rs ss → Calls Tryz.prog 75 #[v] W (SlPosI w0 (ordr (rnk t)) rs ss)) := Lib.hid fun W h => order_any v t w0 W rs ss h hv hb hn
  have hR := rnk_ok (t := t) fun x hx => (hb x hx).1
  have HLO : Hid ((ordr (rnk t)).length = (t.length + 1)) := Lib.hid (by rw [ordr, len_ordk, hR.len])
  have HOB : Hid (∀ i, i ≤ t.length → 0 ≤ gi (ordr (rnk t)) i ∧ gi (ordr (rnk t)) i ≤ t.length) := Lib.hid fun i hi => hR.ord_bound hi
  have HLL : Hid (∀ k, k ≤ (t.length + 1) → (lstk t (ordr (rnk t)) k).length ≤ k) := Lib.hid fun k hk => by
    rw [hR.lst_len k hk]
    split <;> omega
  have HLN : Hid ((lstk t (ordr (rnk t)) (t.length + 1)).length = t.length) := Lib.hid (len_bwl fun x hx => (hb x hx).1)
  obtain ⟨ad, cp, rfl, _⟩ := hv w hm
  have HC : Hid (∀ W, Own w0 W rs ss → ∀ k, k < t.length → ∃ A, ad = some A ∧ W.cell? (A.add k) = some (.int .u8 (gi t k))) := Lib.hid fun W h k hk => by
    obtain ⟨ad2, cp2, he, hc⟩ := hv W h
    cases he
    exact hc k hk
  obtain ⟨i2, hE2⟩ := em124
  have HE := Lib.hid hE2
  obtain ⟨i3, hE3⟩ := em22
  have HE22 := Lib.hid hE3
  obtain ⟨i4, hE4⟩ := el24
  have HB5 := Lib.hid hE4
  clear hE2 hE3 hE4 hb hv hR
  simp only [bwi, bwl]
  generalize ordr (rnk t) = o at *
  go_enter Tryz.func32, Tryz.ntmps32
  go_wp2_with (first
    | (go_at_call 75; have _t := hm; refine (CO.out _ hm).mono ?_; clear _t; clear hm; rintro e w1 ⟨X, v1, rfl, hX, hm⟩; rw [HLO.out] at hX; obtain ⟨gx, px, cx, cellsx, rfl, rfl, hcx, _, hxl, hcells⟩ := hX.pos (by omega); have HGR : Hid (∀ i, i < (t.length + 1) → cellsx[px + i]? = some (.int .i64 (gi o i))) := Lib.hid fun i hi => (by rw [hcells i (by rw [length_vs, HLO.out]; exact hi), get_vs _ _ i (by rw [HLO.out]; exact hi)]); clear hX hcells hxl hcx))
  go_loopw [2, 3, 9] (fun z y u wr => ∃ (k : Nat) (X : List (Nat × Array Value)) (a2 : Option Addr) (c2 : Nat), k ≤ (t.length + 1) ∧ u = .int .i64 k ∧ y = .int .i64 (zixk o k) ∧ z = .slice a2 (lstk t o k).length c2 ∧ Lies 1 X z (lstk t o k).length (vs .u8 (lstk t o k)) ∧ Own w0 wr ((gx, cellsx) :: (X ++ rs)) ss) (fun _ _ u _ => (t.length + 1) - (intOf u).toNat)
  case atStart => exact ⟨0, [], none, 0, by omega, rfl, rfl, rfl, Lies.nil 1, hm⟩
  case round =>
    clear hm
    obtain ⟨k, X, a2, c2, hk, rfl, rfl, rfl, hX, hm⟩ := hrel
    have HX := Lib.hid hX
    clear hX
    by_cases hlt : k < (t.length + 1)
    · have p0 : decide ((k : Int) < (((t.length + 1) : Nat) : Int)) = true := decide_eq_true (by omega)
      have p0b : decide ((k : Int) < (t.length : Int) + 1) = true := decide_eq_true (by omega)
      have p0c : decide (k < (t.length + 1)) = true := decide_eq_true hlt
      have w3 : IntKind.i64.wrap ((k : Int) + 1) = ((k + 1 : Nat) : Int) := by rw [IntWalk.i64_in _ (by omega)]; push_cast; rfl
      have hbd := HOB.out k (by omega)
      have hll := HLL.out k (by omega)
      obtain ⟨q, hq⟩ := Int.eq_ofNat_of_zero_le hbd.1
      have HG : Hid (cellsx[px + k]? = some (.int .i64 q)) := Lib.hid (by rw [← hq]; exact HGR.out k hlt)
      rcases q with _ | q
      · have HN : Hid (lstk t o (k + 1) = lstk t o k ∧ zixk o (k + 1) = k) := Lib.hid ⟨by rw [lstk, if_pos (by rw [hq]; rfl)], by rw [zixk, if_pos (by rw [hq]; rfl)]⟩
        clear hbd hq hll
        generalize hL : lstk t o k = L at *
        generalize (zixk o k) = zx at *
        go_wp2_with (first
            | (with_reducible refine gIa (t := 124) ?_; (refine wpList_run rfl (ix1 (k := k) rfl HE.out rfl rfl rfl hlt) ?_))
            | (with_reducible refine gLd (t := 3) ?_; (refine wpList_run rfl (ld 0 hm rfl rfl rfl (ot rfl) HG.out) ?_)))
        go_roundw
        case rel => exact ⟨k + 1, X, a2, c2, by omega, by go_num, by rw [HN.out.2], by rw [HN.out.1], by rw [HN.out.1]; exact HX.out, hm⟩
        case measure => simp [intOf]; omega
      · have HN : Hid (lstk t o (k + 1) = lstk t o k ++ [gi t q] ∧ zixk o (k + 1) = zixk o k) := Lib.hid ⟨by rw [lstk, if_neg (by omega), hq, show (((q + 1 : Nat) : Int) - 1).toNat = q by omega], by rw [zixk, if_neg (by omega)]⟩
        have hql : q < t.length := by omega
        obtain ⟨A, rfl, hA0⟩ := HC.out _ hm.dropRow.behind q hql
        have hcell : wr.cell? (A.add q) = some (.int .u8 (gi t q)) := hA0
        have w5 : IntKind.i64.wrap (((q + 1 : Nat) : Int) - 1) = q := by rw [IntWalk.i64_in _ (by omega)]; omega
        have w5b : IntKind.i64.wrap ((q : Int) + 1 - 1) = q := by rw [IntWalk.i64_in _ (by omega)]; omega
        have q7 : (((q + 1 : Nat) : Int) == 0) = false := by rw [beq_eq_false_iff_ne]; omega
        have q7b : ((q : Int) + 1 == 0) = false := by rw [beq_eq_false_iff_ne]; omega
        clear hbd hq hA0
        generalize gi t q = x at *
        generalize hL : lstk t o k = L at *
        generalize (zixk o k) = zx at *
        go_wp2_with (first
            | (with_reducible refine gIa (t := 124) ?_; (refine wpList_run rfl (ix1 (k := k) rfl HE.out rfl rfl rfl hlt) ?_))
            | (with_reducible refine gLd (t := 3) ?_; (refine wpList_run rfl (ld 0 hm rfl rfl rfl (ot rfl) HG.out) ?_))
            | (with_reducible refine gIa (t := 22) ?_; (refine wpList_run rfl (exec_indexAddr_sl (k := q) rfl HB5.out rfl rfl rfl hql) ?_))
            | (with_reducible refine gLd (t := 5) ?_; (refine wpList_run rfl (exec_loadaddr rfl rfl one5 hcell) ?_))
            | (refine list_eff rfl (eff_build1 hm rfl HB5.out (ev_tmp rfl) rfl ?_); clear hm; intro w gb hm)
            | (refine list_eff rfl (eff_appendX (A := [_, _]) (X := X) hm rfl HE22.out (ev_tmp rfl) HX.out (ev_tmp rfl) (fun W h => From.one (h.row 0 rfl)) (one_lit1 rfl) (by omega) (by omega) (by omega) ?_); clear hm; intro X2 v2 w hX2 hm; simp only [List.cons_append, List.nil_append] at hm; replace hm := hm.dropRow; obtain ⟨ad2, c3, rfl⟩ := hX2.shape; have HX2 := Lib.hid hX2; clear hX2))
        have HX4 : Hid (Lies 1 X2 (.slice ad2 (L.length + 1) c3) (L.length + 1) (vs .u8 (L ++ [x]))) := Lib.hid (by rw [← vs_app]; exact HX2.out)
        clear HX2
        go_roundw
        case rel => exact ⟨k + 1, X2, ad2, c3, by omega, by go_num, by rw [HN.out.2], by rw [HN.out.1, List.length_append, List.length_singleton], by rw [HN.out.1, List.length_append, List.length_singleton]; exact HX4.out, hm⟩
        case measure => simp [intOf]; omega
    · obtain rfl : k = (t.length + 1) := by omega
      have p0 : decide ((((t.length + 1) : Nat) : Int) < (((t.length + 1) : Nat) : Int)) = false := decide_eq_false (by omega)
      have p0b : decide ((t.length : Int) + 1 < (t.length : Int) + 1) = false := decide_eq_false (by omega)
      go_wp2
      go_ret2
      exact ⟨X, _, rfl, by have := HX.out; rw [HLN.out] at this; rw [HLN.out]; exact this, hm.dropRow⟩
end Go.Proofs.YtkpbhdhkdonghaaGreat

namespace Go.Proofs.YtkpbhdhkdonghaaGreat
open Go Go.RowKit
set_option maxRecDepth 100000 in
set_option maxHeartbeats 1000000 in
theorem back17_nil (v : Value) (w0 w : World) (rs : List (Nat × Array Value)) (ss : List Sl) (hm : Own w0 w rs ss) (hv : ∀ W, Own w0 W rs ss → In .u8 W v []) : Calls Tryz.prog 76 #[v, .int .i64 0] w fun x w' => (∃ u, x = .returned (.tuple #[u, .int .i64 0])) ∧ Own w0 w' rs ss := by
  have CA : Hid (∀ W, Own w0 W rs ss → Calls Tryz.prog 122 #[v] W (SlPosI w0 (tab 0 (aft [])) rs ss)) := Lib.hid fun W h => after17 v [] w0 W rs ss h hv (fun x hx => by simp at hx) (by simp)
  obtain ⟨ad, cp, rfl, _⟩ := hv w hm
  have CT : Hid (∀ (W : World), Calls Tryz.prog 123 #[.slice none 0 0] W fun x w' => ∃ u, x = .returned u ∧ Below W.heap.size W w') := Lib.hid fun W => turned17 _ [] W ⟨none, 0, rfl, fun i hi => by simp at hi⟩ (by simp)
  clear hv
  simp only [List.length_nil]
  go_enter Tryz.func76, Tryz.ntmps76
  go_wp2_with (first
    | (go_at_call 122; have _t := hm; refine (CA.out _ hm).mono ?_; clear _t; clear hm; rintro e w ⟨X1, v1, rfl, hX1, hm⟩; clear hX1))
  go_loopw [7, 8, 9] (fun z y u wr => z = .slice none 0 0 ∧ y = .int .i64 0 ∧ u = .int .i64 0 ∧ Own w0 wr (X1 ++ rs) ss) (fun _ _ _ _ => 0)
  case atStart => exact ⟨rfl, rfl, rfl, hm⟩
  case round =>
    clear hm
    obtain ⟨rfl, rfl, rfl, hm⟩ := hrel
    go_wp2_with (first
        | (go_at_call 123; refine (CT.out _).mono ?_; rintro e w1 ⟨u9, rfl, hb9⟩; replace hm := hm.call hb9; clear hb9))
    go_ret2
    exact ⟨⟨u9, rfl⟩, hm.behind⟩
set_option maxRecDepth 100000 in
theorem valid17 (v : Value) (l : List Int) (index : Nat) (w0 w : World) (rs : List (Nat × Array Value)) (ss : List Sl) (hm : Own w0 w rs ss) (hv : ∀ W, Own w0 W rs ss → In .u8 W v l) (hb : Bytes l) (h1 : l = [] ∧ index = 0 ∨ 1 ≤ index) (h2 : index ≤ l.length) (hn : l.length ≤ 1000000) : Calls Tryz.prog 33 #[v, .int .i64 index] w fun e w' => e = .returned (.bool (wval l index l.length 0)) ∧ Own w0 w' rs ss := by
  obtain ⟨o, ho⟩ : ∃ o, o = wval l index l.length 0 := ⟨_, rfl⟩
  rw [← ho]
  have CB : Hid (∀ W, Own w0 W rs ss → Calls Tryz.prog 76 #[v, .int .i64 index] W fun x w' => (∃ u, x = .returned (.tuple #[u, .int .i64 (if o = true then 0 else 170)])) ∧ Own w0 w' rs ss) := Lib.hid fun W h => by
    rcases h1 with ⟨rfl, rfl⟩ | h1
    · have h3 := back17_nil v w0 W rs ss h hv
      have : o = true := by rw [ho]; rfl
      rw [this]
      exact h3
    · rw [ho]
      exact back17 v l index w0 W rs ss h hv hb h1 h2 hn
  clear ho hv hb
  cases o
  · go_enter Tryz.func33, Tryz.ntmps33
    go_wp2_with (first
        | (go_at_call 76; have _t := hm; refine (CB.out _ hm).mono ?_; clear _t; clear hm; rintro e w1 ⟨⟨u9, rfl⟩, hm⟩))
    go_ret
    exact ⟨rfl, hm⟩
  · go_enter Tryz.func33, Tryz.ntmps33
    go_wp2_with (first
        | (go_at_call 76; have _t := hm; refine (CB.out _ hm).mono ?_; clear _t; clear hm; rintro e w1 ⟨⟨u9, rfl⟩, hm⟩))
    go_ret
    exact ⟨rfl, hm⟩
end Go.Proofs.YtkpbhdhkdonghaaGreat
