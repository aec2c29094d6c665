/-
  Part 13 of the proof.
-/
import Derived.Deep.AppendSrc
import Derived.Laws.BitsLemmas
import Derived.Test.YtkpbhdhkdonghaaGreatV07
import Derived.Test.YtkpbhdhkdonghaaGreatV11
import Derived.Test.YtkpbhdhkdonghaaGreatV12
set_option linter.all false
namespace Go.Proofs.YtkpbhdhkdonghaaGreat
open Go Go.RowKit
theorem Own.perm {w0 w : World} {rs rt : List (Nat × Array Value)} {ss : List Sl} (h : Own w0 w rs ss) (hp : rt.Perm rs) : Own w0 w rt ss :=
  ⟨⟨h.mem.below, fun p hp' => h.mem.own p (hp.mem_iff.1 hp'), fun p hp' => h.mem.rows p (hp.mem_iff.1 hp'), (hp.map _).nodup_iff.2 h.mem.apart⟩, h.sl, ((hp.map Prod.fst).append_left _).nodup_iff.2 h.apart⟩
theorem Own.up {w0 w : World} {ss : List Sl} (L : List (Nat × Array Value)) {r : Nat × Array Value} {X rs : List (Nat × Array Value)} (h : Own w0 w (r :: (L ++ (X ++ rs))) ss) : Own w0 w (r :: (X ++ (L ++ rs))) ss :=
  h.perm (List.Perm.cons r (by rw [← List.append_assoc, ← List.append_assoc]; exact List.perm_append_comm.append_right rs))
def Lies (s : Nat) (X : List (Nat × Array Value)) (v : Value) (n : Nat) (xs : List Value) : Prop := xs.length = n * s ∧ ((v = .slice none 0 0 ∧ xs = [] ∧ n = 0 ∧ X = []) ∨ ∃ g p c cells, X = [(g, cells)] ∧ v = .slice (some ⟨g, p, none⟩) n c ∧ n ≤ c ∧ p + c * s ≤ cells.size ∧ ∀ j, j < xs.length → cells[p + j]? = xs[j]?)
def From (s : Nat) (w : World) (v : Value) (k : Nat) (news : List Value) : Prop := news.length = k * s ∧ ((v = .slice none 0 0 ∧ k = 0 ∧ news = []) ∨ ∃ ad c, v = .slice (some ad) k c ∧ (∀ j u, news[j]? = some u → w.cell? (ad.add j) = some u))
theorem From.of_row {w : World} {g s k c : Nat} {cs : Array Value} (h : RowIs w g cs) (off : Nat) {news : List Value} (hn : news.length = k * s) (hc : ∀ j u, news[j]? = some u → cs[off + j]? = some u) : From s w (.slice (some ⟨g, off, none⟩) k c) k news :=
  ⟨hn, .inr ⟨_, _, rfl, fun j u hj => by rw [Addr.add_lit, h.cell]; exact hc j u hj⟩⟩
structure ElemT (P : Program) (t e s bytes : Nat) (i : TypeInfo) (z : Value) : Prop where
  under : P.underlying t = some (.slice e)
  info : P.info? e = some i
  zero : i.zero = some z
  size : i.size = s
  zs : z.cells.size = s
  bytes : i.bytes = bytes
theorem ElemT.ex {P : Program} {t e s bytes : Nat} {z : Value} (hu : P.underlying t = some (.slice e)) (h : (P.info? e).map (fun i => (i.zero, i.size, i.bytes)) = some (some z, s, bytes)) (hc : z.cells.size = s) : ∃ i, ElemT P t e s bytes i z := by
  cases hi : P.info? e with
  | none => rw [hi] at h; cases h
  | some i =>
    rw [hi] at h
    simp only [Option.map_some, Option.some.injEq, Prod.mk.injEq] at h
    exact ⟨i, hu, hi, h.1, h.2.1, hc, h.2.2⟩
section
variable {P : Program} {w0 w : World} {A X rs : List (Nat × Array Value)} {ss : List Sl} {o : Oper} {a : Act} {K : Value → World → Prop}
theorem Own.grow {nr : Nat × Array Value} (h : Own w0 w (nr :: (A ++ (X ++ rs))) ss) : Own w0 w (A ++ ([nr] ++ rs)) ss := by
  have h1 : Own w0 w (nr :: (A ++ rs)) ss := h.sub (List.Sublist.cons_cons nr (List.Sublist.append (List.Sublist.refl A) (List.sublist_append_right X rs))) (List.Sublist.refl _)
  exact h1.perm List.perm_middle
end
end Go.Proofs.YtkpbhdhkdonghaaGreat

namespace Go.Proofs.YtkpbhdhkdonghaaGreat
open Go Go.RowKit
def wi (n lo hi : Int) : Bool := decide (lo ≤ n ∧ n ≤ hi)
theorem wi_t {n lo hi : Int} (h : lo ≤ n) (k : n ≤ hi) : wi n lo hi = true := decide_eq_true ⟨h, k⟩
theorem wi_f {n lo hi : Int} (h : ¬ (lo ≤ n ∧ n ≤ hi)) : wi n lo hi = false := decide_eq_false h
set_option maxRecDepth 100000 in
set_option maxHeartbeats 1000000 in
theorem rwithin (n lo hi : Int) (w : World) : Calls Tryz.prog 119 #[.int .i64 n, .int .i64 lo, .int .i64 hi] w fun x w' => (x = .returned (.bool (wi n lo hi))) ∧ w' = w := by
  by_cases h1 : lo ≤ n
  · have q1 : decide (lo ≤ n) = true := decide_eq_true h1
    by_cases h2 : n ≤ hi
    · have q2 : decide (n ≤ hi) = true := decide_eq_true h2
      rw [wi_t h1 h2]
      go_enter Tryz.func119, Tryz.ntmps119
      go_wp2
      go_ret
      exact ⟨rfl, rfl⟩
    · have q2 : decide (n ≤ hi) = false := decide_eq_false h2
      rw [wi_f (fun h => h2 h.2)]
      go_enter Tryz.func119, Tryz.ntmps119
      go_wp2
      go_ret
      exact ⟨rfl, rfl⟩
  have q1 : decide (lo ≤ n) = false := decide_eq_false h1
  rw [wi_f (fun h => h1 h.1)]
  go_enter Tryz.func119, Tryz.ntmps119
  go_wp2
  go_ret
  exact ⟨rfl, rfl⟩
set_option maxRecDepth 100000 in
set_option maxHeartbeats 1000000 in
theorem lwithin (n lo hi : Int) (w : World) : Calls Tryz.prog 210 #[.int .i64 n, .int .i64 lo, .int .i64 hi] w fun x w' => (x = .returned (.bool (wi n lo hi))) ∧ w' = w := by
  by_cases h1 : lo ≤ n
  · have q1 : decide (lo ≤ n) = true := decide_eq_true h1
    by_cases h2 : n ≤ hi
    · have q2 : decide (n ≤ hi) = true := decide_eq_true h2
      rw [wi_t h1 h2]
      go_enter Tryz.func210, Tryz.ntmps210
      go_wp2
      go_ret
      exact ⟨rfl, rfl⟩
    · have q2 : decide (n ≤ hi) = false := decide_eq_false h2
      rw [wi_f (fun h => h2 h.2)]
      go_enter Tryz.func210, Tryz.ntmps210
      go_wp2
      go_ret
      exact ⟨rfl, rfl⟩
  have q1 : decide (lo ≤ n) = false := decide_eq_false h1
  rw [wi_f (fun h => h1 h.1)]
  go_enter Tryz.func210, Tryz.ntmps210
  go_wp2
  go_ret
  exact ⟨rfl, rfl⟩
@[reducible] def VN (V M : Int) : Array Value := #[.int .i64 V, .int .i64 M]
theorem rb {a b : Bool} (h : a = b) : Ending.returned (.bool a) = .returned (.bool b) := by rw [h]
end Go.Proofs.YtkpbhdhkdonghaaGreat

namespace Go.Proofs.YtkpbhdhkdonghaaGreat
open Go Go.RowKit
set_option maxRecDepth 100000 in
set_option maxHeartbeats 1000000 in
theorem rapart_z (a n b m : Nat) (hz : m = 0) (hn : 1 ≤ n) (w : World) : Calls Tryz.prog 163 #[.agg (SP a n), .agg (SP b m)] w fun x w' => (x = .returned (.bool true)) ∧ Below w.heap.size w w' := by
  subst hz
  have q0 : ((n : Int) == 0) = false := by simp; omega
  clear hn
  go_enter Tryz.func163, Tryz.ntmps163
  have hm := Own.nil w
  go_wp2_with (first
      | (with_reducible refine gBx ?_; (refine list_eff rfl (eff_box hm rfl rfl ?_); clear hm; intro w g hm))
      | (with_reducible refine gLd (t := 3) ?_; (first | (refine wpList_run rfl (ld 0 hm rfl rfl rfl (ot rfl) (by first | exact (SP0 _ _) | exact (SP1 _ _))) ?_) | (refine wpList_run rfl (ld 1 hm rfl rfl rfl (ot rfl) (by first | exact (SP0 _ _) | exact (SP1 _ _))) ?_)))
      | (with_reducible refine gLd (t := 50) ?_; (first | (refine wpList_run rfl (lda 0 hm rfl rfl rfl (aggSP _ _)) ?_) | (refine wpList_run rfl (lda 1 hm rfl rfl rfl (aggSP _ _)) ?_))))
  go_ret
  exact ⟨rfl, hm.below⟩
set_option maxRecDepth 100000 in
set_option maxHeartbeats 1000000 in
theorem rapart_p (a n b m : Nat) (hz : 1 ≤ m) (hn : 1 ≤ n) (ha : a + n ≤ b) (hb : b ≤ 1048576) (w : World) : Calls Tryz.prog 163 #[.agg (SP a n), .agg (SP b m)] w fun x w' => (x = .returned (.bool true)) ∧ Below w.heap.size w w' := by
  have q0 : ((n : Int) == 0) = false := by simp; omega
  have q1 : ((m : Int) == 0) = false := by simp; omega
  have w1 : IntKind.i64.wrap ((a : Int) + n) = (a : Int) + n := IntWalk.i64_in _ (by omega)
  have q2 : decide ((a : Int) + n ≤ b) = true := decide_eq_true (by omega)
  clear hn hz ha hb
  go_enter Tryz.func163, Tryz.ntmps163
  have hm := Own.nil w
  go_wp2_with (first
      | (with_reducible refine gBx ?_; (refine list_eff rfl (eff_box hm rfl rfl ?_); clear hm; intro w g hm))
      | (with_reducible refine gLd (t := 3) ?_; (first | (refine wpList_run rfl (ld 0 hm rfl rfl rfl (ot rfl) (by first | exact (SP0 _ _) | exact (SP1 _ _))) ?_) | (refine wpList_run rfl (ld 1 hm rfl rfl rfl (ot rfl) (by first | exact (SP0 _ _) | exact (SP1 _ _))) ?_)))
      | (with_reducible refine gLd (t := 50) ?_; (first | (refine wpList_run rfl (lda 0 hm rfl rfl rfl (aggSP _ _)) ?_) | (refine wpList_run rfl (lda 1 hm rfl rfl rfl (aggSP _ _)) ?_))))
  go_ret
  exact ⟨rfl, hm.below⟩
theorem rapart_ok (a n b m : Nat) (hn : 1 ≤ n) (ha : a + n ≤ b) (hb : b ≤ 1048576) (w : World) : Calls Tryz.prog 163 #[.agg (SP a n), .agg (SP b m)] w fun x w' => (x = .returned (.bool true)) ∧ Below w.heap.size w w' := by
  by_cases h : m = 0
  · exact rapart_z a n b m h hn w
  · exact rapart_p a n b m (by omega) hn ha hb w
theorem ri {k : IntKind} {a b : Int} (h : a = b) : Ending.returned (.int k a) = .returned (.int k b) := by rw [h]
set_option maxRecDepth 100000 in
set_option maxHeartbeats 1000000 in
theorem rsize_ok (n d q : Nat) (hqd : q = n / d) (h1 : n ≤ 65536) (h2 : 1 ≤ d) (h3 : d ≤ 65536) (w : World) : Calls Tryz.prog 164 #[.int .i64 n, .int .i64 d] w fun x w' => (x = .returned (.int .i64 ((1024 * q : Nat) : Int))) ∧ w' = w := by
  have hq : q ≤ n := by rw [hqd]; exact Nat.div_le_self n d
  have e1 : (n : Int).tdiv d = (q : Int) := by rw [hqd]; rfl
  have e2 : (n : Int) / d = (q : Int) := by rw [hqd]; rfl
  clear hqd
  have w1 : wi n 0 65536 = true := wi_t (by omega) (by omega)
  have w2 : wi d 1 65536 = true := wi_t (by omega) (by omega)
  have q0 : ((d : Int) == 0) = false := by simp; omega
  have q0b : (d : Int) ≠ 0 := by omega
  have w3 : IntKind.i64.wrap (q : Int) = (q : Int) := IntWalk.i64_in _ (by omega)
  have w4 : IntKind.i64.wrap ((q : Int) * 1024) = ((1024 * q : Nat) : Int) := by rw [IntWalk.i64_in _ (by omega)]; push_cast; omega
  go_enter Tryz.func164, Tryz.ntmps164
  go_wp2_with (first
      | (go_at_call 119; refine (rwithin _ _ _ _).mono ?_; rintro e w1 ⟨rfl, rfl⟩))
  go_ret
  exact ⟨ri (by push_cast; omega), rfl⟩
end Go.Proofs.YtkpbhdhkdonghaaGreat

namespace Go.Proofs.YtkpbhdhkdonghaaGreat
open Go Go.RowKit
structure RkOk (live : Int) (a n b m d : Nat) : Prop where
  n1 : 1 ≤ n
  n2 : n ≤ 65536
  d1 : 1 ≤ d
  d2 : d ≤ 65536
  ap : a + n ≤ b
  fit : (b : Int) + m ≤ live
  big : 1024 * (n / d) ≤ m
  lim : live ≤ 1048576
set_option maxRecDepth 100000 in
set_option maxHeartbeats 1000000 in
theorem rvalid_ok (ga : Nat) (dv : Value) (live peak : Int) (a n b m d : Nat) (h : RkOk live a n b m d) (w0 : World) (hr : RowIs w0 ga (AR dv live peak)) : Calls Tryz.prog 118 #[.pointer (some ⟨ga, 0, none⟩), .agg (SP a n), .agg (SP b m), .int .i64 d] w0 fun x w' => (x = .returned (.bool true)) ∧ Below w0.heap.size w0 w' := by
  obtain ⟨n1, n2, d1, d2, ap, fit, big, lim⟩ := h
  have CH : Hid (∀ W (x y : Nat), (x = a ∧ y = n ∨ x = b ∧ y = m) → Below w0.heap.size w0 W → Calls Tryz.prog 64 #[.pointer (some ⟨ga, 0, none⟩), .agg (SP x y)] W fun e w' => (e = .returned (.bool true)) ∧ Below W.heap.size W w') := Lib.hid fun W x y hxy h => has_ok ga dv live peak x y W (hr.keep W h) (by omega) (by omega) (by omega) lim
  have CA := Lib.hid (fun w => rapart_ok a n b m n1 ap (by omega) w)
  obtain ⟨q, hq⟩ : ∃ q : Nat, q = n / d := ⟨_, rfl⟩
  have CS := Lib.hid (fun w => rsize_ok n d q hq n2 d1 d2 w)
  rw [← hq] at big
  have w1 : wi n 1 65536 = true := wi_t (by omega) (by omega)
  have w2 : wi d 1 65536 = true := wi_t (by omega) (by omega)
  have q1 : decide (((1024 * q : Nat) : Int) ≤ m) = true := decide_eq_true (by omega)
  have q3 : decide (1024 * (q : Int) ≤ m) = true := decide_eq_true (by omega)
  have q2 : decide (1024 * q ≤ m) = true := decide_eq_true big
  clear hr n1 n2 d1 d2 ap fit lim hq big
  go_enter Tryz.func118, Tryz.ntmps118
  have hm := Own.nil w0
  go_upto_region 3 with (first
      | (go_at_call 64; have _t := hm; refine (CH.out _ _ _ (by first | exact .inl ⟨rfl, rfl⟩ | exact .inr ⟨rfl, rfl⟩) hm.below).mono ?_; rintro e w1 ⟨rfl, hb⟩; replace hm := hm.call hb; clear hb _t)
      | (go_at_call 119; refine (rwithin _ _ _ _).mono ?_; rintro e w1 ⟨rfl, rfl⟩)
      | (with_reducible refine gBx ?_; (refine list_eff rfl (eff_box hm rfl rfl ?_); clear hm; intro w g hm))
      | (with_reducible refine gLd (t := 3) ?_; (first | (refine wpList_run rfl (ld 0 hm rfl rfl rfl (ot rfl) (by first | exact (SP0 _ _) | exact (SP1 _ _))) ?_) | (refine wpList_run rfl (ld 1 hm rfl rfl rfl (ot rfl) (by first | exact (SP0 _ _) | exact (SP1 _ _))) ?_)))
      | (with_reducible refine gLd (t := 50) ?_; (first | (refine wpList_run rfl (lda 0 hm rfl rfl rfl (aggSP _ _)) ?_) | (refine wpList_run rfl (lda 1 hm rfl rfl rfl (aggSP _ _)) ?_))))
  refine wp_region_KO hm 13 (.rds [(0, true), (1, true)] (.one 2 (.rds [(3, false), (4, false), (5, true), (6, false), (7, true), (8, false)] (.one 9 (.rds [(10, false), (11, false), (12, false)] .done))))) rfl (by kernel_rfl) rfl (by kernel_rfl) (fun _ _ d _ _ h => by cases d <;> exact h) ?_
  clear hm
  intro w hm
  simp only [KT.rds]
  (refine K_m rfl rfl (fun W hm => lda 1 hm rfl rfl rfl (aggSP _ _)) ?_)
  try simp only [Act.put, List.setIfInBounds_toArray, List.set_cons_zero, List.set_cons_succ]
  (refine K_m rfl rfl (fun W hm => lda 0 hm rfl rfl rfl (aggSP _ _)) ?_)
  try simp only [Act.put, List.setIfInBounds_toArray, List.set_cons_zero, List.set_cons_succ]
  refine one_do rfl rfl (fun K hK => ?_)
  go_simp
  refine (CA.out _).mono ?_
  rintro e w1 ⟨rfl, hb⟩
  replace hm := hm.call hb
  clear hb
  refine hK _ _ ⟨fun W => Own _ W _ _, fun _ h => h, hm, ?_⟩
  clear hK K
  try simp only [Act.put, List.setIfInBounds_toArray, List.set_cons_zero, List.set_cons_succ]
  (refine K_p rfl rfl (fun W => by go_simp; rfl) ?_)
  try simp only [Act.put, List.setIfInBounds_toArray, List.set_cons_zero, List.set_cons_succ]
  (first | (refine K_p rfl rfl (fun W => by go_simp; rfl) ?_) | (refine K_pass rfl rfl ?_))
  try simp only [Act.put, List.setIfInBounds_toArray, List.set_cons_zero, List.set_cons_succ]
  (first | (refine K_m rfl rfl (fun W hm => ld 0 hm rfl rfl rfl (ot rfl) (SP1 _ _)) ?_) | (refine K_mpass rfl rfl ?_))
  try simp only [Act.put, List.setIfInBounds_toArray, List.set_cons_zero, List.set_cons_succ]
  (first | (refine K_p rfl rfl (fun W => by go_simp; rfl) ?_) | (refine K_pass rfl rfl ?_))
  try simp only [Act.put, List.setIfInBounds_toArray, List.set_cons_zero, List.set_cons_succ]
  (first | (refine K_m rfl rfl (fun W hm => ld 1 hm rfl rfl rfl (ot rfl) (SP1 _ _)) ?_) | (refine K_mpass rfl rfl ?_))
  try simp only [Act.put, List.setIfInBounds_toArray, List.set_cons_zero, List.set_cons_succ]
  (first | (refine K_p rfl rfl (fun W => by go_simp; rfl) ?_) | (refine K_pass rfl rfl ?_))
  try simp only [Act.put, List.setIfInBounds_toArray, List.set_cons_zero, List.set_cons_succ]
  refine one_do rfl rfl (fun K hK => ?_)
  go_simp
  refine (CS.out _).mono ?_
  rintro e w1 ⟨rfl, rfl⟩
  refine hK _ _ ⟨fun W => Own _ W _ _, fun _ h => h, hm, ?_⟩
  clear hK K
  try simp only [Act.put, List.setIfInBounds_toArray, List.set_cons_zero, List.set_cons_succ]
  (first | (refine K_p rfl rfl (fun W => by go_simp; rfl) ?_) | (refine K_pass rfl rfl ?_))
  try simp only [Act.put, List.setIfInBounds_toArray, List.set_cons_zero, List.set_cons_succ]
  (refine K_p rfl rfl (fun W => by go_simp; rfl) ?_)
  try simp only [Act.put, List.setIfInBounds_toArray, List.set_cons_zero, List.set_cons_succ]
  (refine K_p rfl rfl (fun W => by go_simp; rfl) ?_)
  try simp only [Act.put, List.setIfInBounds_toArray, List.set_cons_zero, List.set_cons_succ]
  refine K_done ?_
  go_simp
  go_wp2
  go_ret
  exact ⟨rfl, hm.below⟩
end Go.Proofs.YtkpbhdhkdonghaaGreat

namespace Go.Proofs.YtkpbhdhkdonghaaGreat
open Go Go.RowKit
theorem Lies.nil (s : Nat) : Lies s [] (.slice none 0 0) 0 [] := ⟨by simp, .inl ⟨rfl, rfl, rfl, rfl⟩⟩
theorem Lies.shape {s : Nat} {X : List (Nat × Array Value)} {v : Value} {n : Nat} {xs : List Value} (h : Lies s X v n xs) : ∃ ad c, v = .slice ad n c := by
  rcases h.2 with ⟨rfl, _, rfl, _⟩ | ⟨g, p, c, cells, _, rfl, _⟩
  · exact ⟨_, _, rfl⟩
  · exact ⟨_, _, rfl⟩
theorem Lies.pos {s : Nat} {X : List (Nat × Array Value)} {v : Value} {n : Nat} {xs : List Value} (h : Lies s X v n xs) (hn : 0 < n) : ∃ g p c cells, X = [(g, cells)] ∧ v = .slice (some ⟨g, p, none⟩) n c ∧ n ≤ c ∧ p + c * s ≤ cells.size ∧ xs.length = n * s ∧ ∀ j, j < xs.length → cells[p + j]? = xs[j]? := by
  rcases h.2 with ⟨rfl, _, rfl, _⟩ | ⟨g, p, c, cells, h1, h2, h3, h4, h5⟩
  · omega
  · exact ⟨g, p, c, cells, h1, h2, h3, h4, h.1, h5⟩
theorem Lies.of_row {s g n c p : Nat} {cells : Array Value} {xs : List Value} (h1 : xs.length = n * s) (h2 : n ≤ c) (h3 : p + c * s ≤ cells.size) (h4 : ∀ j, j < xs.length → cells[p + j]? = xs[j]?) : Lies s [(g, cells)] (.slice (some ⟨g, p, none⟩) n c) n xs :=
  ⟨h1, .inr ⟨g, p, c, cells, rfl, rfl, h2, h3, h4⟩⟩
theorem Lies.whole {s g n : Nat} {xs : List Value} (h1 : xs.length = n * s) : Lies s [(g, xs.toArray)] (.slice (some ⟨g, 0, none⟩) n n) n xs :=
  Lies.of_row h1 (Nat.le_refl _) (by simp [h1]) (fun j hj => by simp)
theorem Lies.from {s : Nat} {w w0 : World} {A X rs : List (Nat × Array Value)} {ss : List Sl} {v : Value} {n : Nat} {xs : List Value} (h : Lies s X v n xs) (hm : Own w0 w (A ++ (X ++ rs)) ss) : From s w v n xs := by
  refine ⟨h.1, ?_⟩
  rcases h.2 with ⟨rfl, rfl, rfl, rfl⟩ | ⟨g, p, c, cells, rfl, rfl, hc, hs, hcells⟩
  · exact .inl ⟨rfl, rfl, rfl⟩
  · refine .inr ⟨_, _, rfl, fun j u hj => ?_⟩
    have hr := hm.row (i := A.length) (g := g) (cs := cells) (by simp)
    have hl := (List.getElem?_eq_some_iff.1 hj).1
    rw [Addr.add_lit, hr.cell, hcells j hl, hj]
theorem Own.toLies {w0 w : World} {rs : List (Nat × Array Value)} {ss : List Sl} {v : Value} {e : TypeId} {xs : List Value} (h : Own w0 w rs ((v, e, xs) :: ss)) (hq : e < mapT := by first | assumption | (simp [mapT]; done)) : ∃ X, Lies 1 X v xs.length xs ∧ Own w0 w (X ++ rs) ss := by
  have hs := h.get 0 rfl hq
  rcases hs.2 with ⟨hv, h0⟩ | ⟨g, cap, cur, hv, hb, hh, hn, hcap, hsz, ht⟩
  · simp only at hv h0
    have hx : xs = [] := List.length_eq_zero_iff.1 h0
    subst hx
    exact ⟨[], ⟨by simp, .inl ⟨hv, rfl, rfl, rfl⟩⟩, h.dropSl⟩
  · simp only at hv hb hh hn hcap hsz ht
    refine ⟨[(g, cur)], ⟨by simp, .inr ⟨g, 0, cap, cur, rfl, hv, hn, by omega, fun j hj => ?_⟩⟩, ?_⟩
    · rw [Nat.mul_one] at ht
      rw [Nat.zero_add, ← ht, List.getElem?_take_of_lt (by omega)]
      simp
    · have hd := h.dropSl
      obtain ⟨h1, h2, h3⟩ := List.nodup_append.1 h.apart
      have hvb : v.ownBlock = some g := by rw [hv]; rfl
      rw [List.filterMap_cons, hvb] at h1 h3
      rw [List.nodup_cons] at h1
      have hg : g ∉ rs.map (·.1) := fun hm => h3 g (by simp) g hm rfl
      refine ⟨⟨hd.mem.below, ?_, ?_, ?_⟩, hd.sl, ?_⟩
      · intro p hp
        rcases List.mem_cons.1 hp with rfl | hp
        · exact hb
        · exact hd.mem.own p hp
      · intro p hp
        rcases List.mem_cons.1 hp with rfl | hp
        · exact ⟨e, hh⟩
        · exact hd.mem.rows p hp
      · rw [List.singleton_append, List.map_cons, List.nodup_cons]; exact ⟨hg, hd.mem.apart⟩
      · refine List.nodup_append.2 ⟨h1.2, by rw [List.singleton_append, List.map_cons, List.nodup_cons]; exact ⟨hg, h2⟩, ?_⟩
        intro a ha b hb2 hab
        subst hab
        rw [List.singleton_append, List.map_cons] at hb2
        rcases List.mem_cons.1 hb2 with rfl | hb2
        · exact h1.1 ha
        · exact h3 a (List.mem_cons_of_mem _ ha) a hb2 rfl
theorem Own.ofB {w0 w w' : World} {rs : List (Nat × Array Value)} {ss : List Sl} (h : Own w0 w rs ss) {l : List Int} {x : Ending} (hb : OwnB w l x w') : ∃ X v, x = .returned v ∧ Lies 1 X v l.length (vs .u8 l) ∧ Own w0 w' (X ++ rs) ss := by
  obtain ⟨⟨v, rfl, ho⟩, hb⟩ := hb
  have ho' : w'.ownsRow w.heap.size 5 1 v (vs .u8 l).length (vs .u8 l) := by rw [length_vs]; exact ho
  obtain ⟨X, hX, hm⟩ := (h.callSl hb ho').toLies
  rw [length_vs] at hX
  exact ⟨X, v, rfl, hX, hm⟩
section
variable {P : Program} {w w0 : World} {o : Oper} {a : Act} {rs : List (Nat × Array Value)} {ss : List Sl}
theorem ix {t e s bytes : Nat} {i : TypeInfo} {z : Value} {x y : Operand} (ho : o.op = .indexAddr t x y) (he : ElemT P t e s bytes i z) {g p n c : Nat} (hx : a.eval x = .slice (some ⟨g, p, none⟩) n c) {k : Nat} {q : IntKind} {zz : Int} (hy : a.eval y = .int q zz) (hz : zz = k) (hk : k < n) :
    (execOp a.eval o).run P w = .ok (.value (.pointer (some ⟨g, p + k * s, none⟩))) w := by
  subst hz
  unfold execOp
  simp only [ho, hx, hy, Instr.indexAt, asIntOf, Sem.run_bind, Sem.run_pure, Result.andThen_ok, run_underlying he.under]
  simp [show (k : Int) < (n : Int) by omega, sizeOf, typeInfo, he.info, he.size, Addr.add_lit]
theorem ix1 {t e bytes : Nat} {i : TypeInfo} {z : Value} {x y : Operand} (ho : o.op = .indexAddr t x y) (he : ElemT P t e 1 bytes i z) {g p n c : Nat} (hx : a.eval x = .slice (some ⟨g, p, none⟩) n c) {k : Nat} {q : IntKind} {zz : Int} (hy : a.eval y = .int q zz) (hz : zz = k) (hk : k < n) :
    (execOp a.eval o).run P w = .ok (.value (.pointer (some ⟨g, p + k, none⟩))) w := by
  have := ix (P := P) (w := w) ho he hx hy hz hk
  rwa [Nat.mul_one] at this
theorem Lies.sub {s : Nat} {X : List (Nat × Array Value)} {ad : Option Addr} {n c : Nat} {xs : List Value} (hX : Lies s X (.slice ad n c) n xs) {l h : Nat} (h1 : l ≤ h) (h2 : h ≤ n) : Lies s X (.slice (if c = l then ad else ad.map (·.add (l * s))) (h - l) (c - l)) (h - l) ((xs.take (h * s)).drop (l * s)) := by
  have hlen : ((xs.take (h * s)).drop (l * s)).length = (h - l) * s := by
    rw [List.length_drop, List.length_take, hX.1, Nat.min_eq_left (Nat.mul_le_mul_right s h2), Nat.sub_mul]
  refine ⟨hlen, ?_⟩
  rcases hX.2 with ⟨e, rfl, rfl, rfl⟩ | ⟨g, p, c', cells, rfl, e, hc, hs, hcells⟩
  · cases e
    obtain rfl : l = 0 := by omega
    obtain rfl : h = 0 := by omega
    exact .inl ⟨by simp, by simp, rfl, rfl⟩
  · cases e
    by_cases hcl : c = l
    · refine .inr ⟨g, p, 0, cells, rfl, by rw [if_pos hcl, hcl, Nat.sub_self], by omega, by omega, fun j hj => ?_⟩
      rw [hlen] at hj
      have : h - l = 0 := by omega
      rw [this, Nat.zero_mul] at hj
      omega
    · refine .inr ⟨g, p + l * s, c - l, cells, rfl, by rw [if_neg hcl, Option.map_some, Addr.add_lit], by omega, ?_, fun j hj => ?_⟩
      · have : l * s + (c - l) * s = c * s := by rw [← Nat.add_mul]; congr 1; omega
        omega
      · rw [hlen] at hj
        have e1 : (h - l) * s = h * s - l * s := Nat.sub_mul h l s
        have e2 : h * s ≤ n * s := Nat.mul_le_mul_right s h2
        have hx1 := hX.1
        rw [Nat.add_assoc, hcells (l * s + j) (by omega), List.getElem?_drop, List.getElem?_take_of_lt (by omega)]
theorem Lies.put {s g p n c : Nat} {cells : Array Value} {xs : List Value} (hX : Lies s [(g, cells)] (.slice (some ⟨g, p, none⟩) n c) n xs) {j : Nat} (hj : j < xs.length) (u : Value) : p + j < cells.size ∧ Lies s [(g, cells.setIfInBounds (p + j) u)] (.slice (some ⟨g, p, none⟩) n c) n (xs.set j u) := by
  rcases hX.2 with ⟨e, _⟩ | ⟨g', p', c', cells', e1, e2, hc, hs, hcells⟩
  · cases e
  · cases e1; cases e2
    have hlt : p + j < cells.size := by
      have : n * s ≤ c * s := Nat.mul_le_mul_right s hc
      have := hX.1
      omega
    refine ⟨hlt, by rw [List.length_set]; exact hX.1, .inr ⟨g, p, c, _, rfl, rfl, hc, by rw [Array.size_setIfInBounds]; exact hs, fun k hk => ?_⟩⟩
    rw [List.length_set] at hk
    by_cases hjk : j = k
    · subst hjk
      rw [Array.getElem?_setIfInBounds_self_of_lt hlt, List.getElem?_set_self hj]
    · rw [Array.getElem?_setIfInBounds_ne (by omega), List.getElem?_set_ne hjk]
      exact hcells k hk
theorem Lies.cell {s g p n c : Nat} {cells : Array Value} {xs : List Value} (hX : Lies s [(g, cells)] (.slice (some ⟨g, p, none⟩) n c) n xs) {j : Nat} {u : Value} (hj : xs[j]? = some u) : cells[p + j]? = some u := by
  rcases hX.2 with ⟨e, _⟩ | ⟨g', p', c', cells', e1, e2, hc, hs, hcells⟩
  · cases e
  · cases e1; cases e2
    rw [hcells j (List.getElem?_eq_some_iff.1 hj).1, hj]
end
theorem vs_set (k : IntKind) (l : List Int) (i : Nat) (x : Int) : (vs k l).set i (.int k x) = vs k (l.set i x) := by simp [vs, List.map_set]
theorem em22 : ∃ i, ElemT Tryz.prog 22 5 1 1 i (.int .u8 0) := ElemT.ex Tryz.underlying22 (by kernel_rfl) rfl
theorem em124 : ∃ i, ElemT Tryz.prog 124 3 1 8 i (.int .i64 0) := ElemT.ex Tryz.underlying124 (by kernel_rfl) rfl
end Go.Proofs.YtkpbhdhkdonghaaGreat

namespace Go.Proofs.YtkpbhdhkdonghaaGreat
open Go Go.RowKit
theorem zrI257 (w : World) : (zeroValue 184).run Tryz.prog w = .ok (.agg (J .i64 (tab 257 fun _ => 0))) w := by kernel_rfl
def cntA (l : List Int) (k j : Nat) : Int := if j = 0 then 0 else eqn (l.take k) (j - 1)
def cntB (l : List Int) (k j : Nat) : Int := if j ≤ k then lsn l j else eqn l (j - 1)
def cntC (l : List Int) (k j : Nat) : Int := lsn l j + eqn (l.take k) j
theorem cntA_set {l : List Int} {k c : Nat} (hk : k < l.length) (hc : gi l k = c) (j : Nat) : (if j = c + 1 then cntA l k (c + 1) + 1 else cntA l k j) = cntA l (k + 1) j := by
  by_cases h : j = c + 1
  · subst h
    rw [if_pos rfl]
    simp only [cntA]
    rw [if_neg (by omega), if_neg (by omega), Nat.add_sub_cancel, eqn_snoc l k hk, hc, if_pos rfl]
  · rw [if_neg h]
    simp only [cntA]
    by_cases h0 : j = 0
    · subst h0; simp
    · rw [if_neg h0, if_neg h0, eqn_snoc l k hk, hc, if_neg (by omega), Int.add_zero]
theorem cntB_set {l : List Int} (k j : Nat) : (if j = k + 1 then cntB l k (k + 1) + cntB l k k else cntB l k j) = cntB l (k + 1) j := by
  simp only [cntB]
  by_cases h : j = k + 1
  · subst h; rw [if_pos rfl, if_neg (by omega), if_pos (Nat.le_refl _), if_pos (Nat.le_refl _), lsn_step]; rfl
  · rw [if_neg h]
    by_cases h2 : j ≤ k
    · rw [if_pos h2, if_pos (by omega)]
    · rw [if_neg h2, if_neg (by omega)]
theorem cntC_set {l : List Int} {k c : Nat} (hk : k < l.length) (hc : gi l k = c) (j : Nat) : (if j = c then cntC l k c + 1 else cntC l k j) = cntC l (k + 1) j := by
  simp only [cntC]
  rw [eqn_snoc l k hk, hc]
  by_cases h : j = c
  · subst h; rw [if_pos rfl, if_pos rfl]; omega
  · rw [if_neg h, if_neg (by omega), Int.add_zero]
theorem cntA_bound (l : List Int) (k j : Nat) : 0 ≤ cntA l k j ∧ cntA l k j ≤ l.length := by
  rw [cntA]; split
  · omega
  · have := eqn_bound (l.take k) (j - 1); have := List.length_take_le' k l; omega
theorem cntB_bound (l : List Int) (k j : Nat) : 0 ≤ cntB l k j ∧ cntB l k j ≤ l.length := by
  rw [cntB]; split
  · exact lsn_bound l j
  · exact eqn_bound l _
theorem cntC_bound (l : List Int) (k j : Nat) : 0 ≤ cntC l k j ∧ cntC l k j ≤ 2 * l.length := by
  have := lsn_bound l j; have := eqn_bound (l.take k) j; have := List.length_take_le' k l; rw [cntC]; omega
theorem vs_zeros (n : Nat) : (List.replicate n (Value.int .i64 0)).toArray = J .i64 (tab n fun _ => 0) := by rw [← tab_zeros, J, vs, List.map_replicate]
def part1 (l : List Int) (index k r : Nat) : Int := if r < k then rowsOf l index r else 0
set_option maxRecDepth 100000 in
set_option maxHeartbeats 2000000 in
theorem behind_any (v : Value) (l : List Int) (index : Nat) (w0 w : World) (rs : List (Nat × Array Value)) (ss : List Sl) (hm : Own w0 w rs ss) (hv : ∀ W, Own w0 W rs ss → In .u8 W v l) (hb : Bytes l) (h1 : 1 ≤ index) (h2 : index ≤ l.length) (hn : l.length ≤ 1000000) : Calls Tryz.prog 71 #[v, .int .i64 index] w (fun e w' => ∃ g, e = .returned (.slice (some ⟨g, 0, none⟩) (l.length + 1) (l.length + 1)) ∧ Own w0 w' ((g, J .i64 (tab (l.length + 1) (rowsOf l index))) :: rs) ss) := by
  obtain ⟨ad, cp, rfl, _⟩ := hv w hm
  have HC : Hid (∀ W, Own w0 W rs ss → ∀ k, k < l.length → ∃ A, ad = some A ∧ W.cell? (A.add k) = some (.int .u8 (gi l k))) := Lib.hid fun W h k hk => by
    obtain ⟨ad2, cp2, he, hc⟩ := hv W h
    cases he
    exact hc k hk
  obtain ⟨i3, hE⟩ := el24
  have HE := Lib.hid hE
  obtain ⟨i4, hF⟩ := el39
  have HF := Lib.hid hF
  obtain ⟨i5, hF1⟩ := em124
  have HF1 := Lib.hid hF1
  have HB := Lib.hid hb
  have wl : IntKind.i64.wrap ((l.length : Int) + 1) = ((l.length + 1 : Nat) : Int) := by rw [IntWalk.i64_in _ (by omega)]; push_cast; rfl
  clear hE hF hF1 hb hv
  go_enter Tryz.func71, Tryz.ntmps71
  go_wp2_with (first
    | (with_reducible refine gAl (t := 184) ?_; (refine list_eff rfl (eff_alloc hm rfl zrI257 ?_); clear hm; intro w g hm)))
  have hm0 : Own w0 w ((g, J .i64 (tab 257 (cntA l 0))) :: rs) ss := by
    rw [tab_congr (g := fun _ => 0)]
    · exact hm
    · intro i _; rw [cntA]; split <;> rfl
  clear hm
  have hm := hm0
  clear hm0
  go_loopw [16] (fun u wr => ∃ k : Nat, k ≤ l.length ∧ u = .int .i64 k ∧ Own w0 wr ((g, J .i64 (tab 257 (cntA l k))) :: rs) ss) (fun u _ => l.length - (intOf u).toNat)
  case atStart => exact ⟨0, by omega, rfl, hm⟩
  case round =>
    clear hm
    obtain ⟨k, hk, rfl, hm⟩ := hrel
    by_cases hlt : k < l.length
    · have hs := HB.out (gi l k) (by rw [gi_eq l k hlt]; exact List.getElem_mem _)
      obtain ⟨A, rfl, hA0⟩ := HC.out _ hm.dropRow k hlt
      obtain ⟨c, hc⟩ := Int.eq_ofNat_of_zero_le hs.1
      have hcell : wr.cell? (A.add k) = some (.int .u8 c) := by rw [← hc]; exact hA0
      have hc1 : c + 1 < 257 := by omega
      have w1 : IntKind.i64.wrap (c : Int) = c := IntWalk.i64_in _ (by omega)
      have w2 : IntKind.i64.wrap ((c : Int) + 1) = ((c + 1 : Nat) : Int) := by rw [IntWalk.i64_in _ (by omega)]; push_cast; rfl
      have hbd := cntA_bound l k (c + 1)
      have w3 : IntKind.i64.wrap (cntA l k (c + 1) + 1) = cntA l k (c + 1) + 1 := IntWalk.i64_in _ (by omega)
      have HG := Lib.hid (at_tab .i64 (cntA l k) hc1)
      have HP := Lib.hid (J_tab .i64 (n := 257) (cntA l k) (cntA l (k + 1)) (c + 1) (cntA l k (c + 1) + 1) (fun j _ => cntA_set hlt hc j))
      have HSZ : Hid (c + 1 < (J .i64 (tab 257 (cntA l k))).size) := Lib.hid (by rw [size_J, len_tab]; exact hc1)
      clear hA0 hs hc hbd
      generalize cntA l k (c + 1) = y at *
      generalize hT1 : tab 257 (cntA l k) = T1 at *
      generalize hT2 : tab 257 (cntA l (k + 1)) = T2 at *
      go_wp2_with (first
          | (with_reducible refine gIa (t := 22) ?_; (refine wpList_run rfl (exec_indexAddr_sl rfl HE.out rfl rfl rfl hlt) ?_))
          | (with_reducible refine gLd (t := 5) ?_; (refine wpList_run rfl (exec_loadaddr rfl rfl one5 hcell) ?_))
          | (with_reducible refine gLd (t := 3) ?_; (refine wpList_run rfl (ld 0 hm rfl rfl rfl (ot rfl) HG.out) ?_))
          | (with_reducible refine gSt (t := 3) ?_; (refine list_eff rfl (eff_cell 0 hm rfl rfl (ev_tmp rfl) rfl (ot rfl) HSZ.out rfl rfl HP.out ?_); clear hm; intro w hm; try simp only [puts, List.cons_append, List.nil_append, List.set] at hm)))
      go_roundw
      case rel => exact ⟨k + 1, by omega, by go_num, by rw [hT2]; exact hm⟩
      case measure => simp [intOf]; omega
    · obtain rfl : l.length = k := by omega
      go_wp2
      have hm0 : Own w0 wr ((g, J .i64 (tab 257 (cntB l 0))) :: rs) ss := by
        rw [tab_congr (g := cntA l l.length)]
        · exact hm
        · intro i _
          rw [cntA, cntB, List.take_length]
          by_cases h : i = 0
          · subst h; rw [if_pos (Nat.le_refl _), if_pos rfl, lsn_zero HB.out]
          · rw [if_neg h, if_neg (by omega)]
      clear hm
      have hm := hm0
      clear hm0
      go_loopw [28] (fun u wr => ∃ k : Nat, k ≤ 256 ∧ u = .int .i64 k ∧ Own w0 wr ((g, J .i64 (tab 257 (cntB l k))) :: rs) ss) (fun u _ => 256 - (intOf u).toNat)
      case atStart => exact ⟨0, by omega, rfl, hm⟩
      case round =>
        clear hm
        obtain ⟨k, hk, rfl, hm⟩ := hrel
        by_cases hlt : k < 256
        · have hc0 : k < 257 := by omega
          have hc1 : k + 1 < 257 := by omega
          have b1 := cntB_bound l k k
          have b2 := cntB_bound l k (k + 1)
          have w2 : IntKind.i64.wrap ((k : Int) + 1) = ((k + 1 : Nat) : Int) := by rw [IntWalk.i64_in _ (by omega)]; push_cast; rfl
          have w3 : IntKind.i64.wrap (cntB l k (k + 1) + cntB l k k) = cntB l k (k + 1) + cntB l k k := IntWalk.i64_in _ (by omega)
          have HG0 := Lib.hid (at_tab .i64 (cntB l k) hc0)
          have HG1 := Lib.hid (at_tab .i64 (cntB l k) hc1)
          have HP := Lib.hid (J_tab .i64 (n := 257) (cntB l k) (cntB l (k + 1)) (k + 1) (cntB l k (k + 1) + cntB l k k) (fun j _ => cntB_set k j))
          have HSZ : Hid (k + 1 < (J .i64 (tab 257 (cntB l k))).size) := Lib.hid (by rw [size_J, len_tab]; exact hc1)
          clear b1 b2
          generalize cntB l k (k + 1) = y at *
          generalize cntB l k k = z at *
          generalize hT1 : tab 257 (cntB l k) = T1 at *
          generalize hT2 : tab 257 (cntB l (k + 1)) = T2 at *
          go_upto_region 10 with fail
          refine wp_region_KO hm 9 (.rds [(0, false), (1, false), (2, false), (3, true), (4, false), (5, false), (6, true), (7, false), (8, false)] (.brk 9 10 .done)) rfl (by kernel_rfl) rfl (by kernel_rfl) (fun _ _ d _ _ h => by cases d <;> exact h) ?_
          clear hm
          intro w hm
          simp only [KT.rds]
          (refine K_p rfl rfl (fun W => by go_simp; rfl) ?_)
          try simp only [Act.put, List.setIfInBounds_toArray, List.set_cons_zero, List.set_cons_succ]
          (refine K_p rfl rfl (fun W => by go_simp; show Value.int .i64 _ = Value.int .i64 ((k + 1 : Nat) : Int); rfl) ?_)
          try simp only [Act.put, List.setIfInBounds_toArray, List.set_cons_zero, List.set_cons_succ]
          (refine K_p rfl rfl (fun W => by go_simp; rw [if_pos (by omega)]) ?_)
          try simp only [Act.put, List.setIfInBounds_toArray, List.set_cons_zero, List.set_cons_succ]
          (refine K_m rfl rfl (fun W hm => ld 0 hm rfl rfl rfl (ot rfl) HG1.out) ?_)
          try simp only [Act.put, List.setIfInBounds_toArray, List.set_cons_zero, List.set_cons_succ]
          (refine K_p rfl rfl (fun W => by go_simp; rfl) ?_)
          try simp only [Act.put, List.setIfInBounds_toArray, List.set_cons_zero, List.set_cons_succ]
          (refine K_p rfl rfl (fun W => by go_simp; rw [if_pos (by omega)]) ?_)
          try simp only [Act.put, List.setIfInBounds_toArray, List.set_cons_zero, List.set_cons_succ]
          (refine K_m rfl rfl (fun W hm => ld 0 hm rfl rfl rfl (ot rfl) HG0.out) ?_)
          try simp only [Act.put, List.setIfInBounds_toArray, List.set_cons_zero, List.set_cons_succ]
          (refine K_p rfl rfl (fun W => by go_simp; (first | (rw [IntWalk.i64_in _ (by omega)]; done) | (rw [IntWalk.i64_in _ (by omega)]; rfl) | rfl)) ?_)
          try simp only [Act.put, List.setIfInBounds_toArray, List.set_cons_zero, List.set_cons_succ]
          (refine K_p rfl rfl (fun W => by go_simp; rw [if_pos (by omega)]) ?_)
          try simp only [Act.put, List.setIfInBounds_toArray, List.set_cons_zero, List.set_cons_succ]
          (refine brk_eff rfl rfl (eff_cell 0 hm rfl rfl (ev_tmp rfl) rfl (ot rfl) HSZ.out rfl rfl HP.out ?_))
          clear hm
          intro w hm
          try simp only [puts, List.cons_append, List.nil_append, List.set, List.eraseIdx, List.setIfInBounds_toArray, List.set_cons_zero, List.set_cons_succ] at hm
          refine ⟨fun W => Own _ W _ _, hm, ?_⟩
          try simp only [Act.put, List.setIfInBounds_toArray, List.set_cons_zero, List.set_cons_succ]
          refine K_done ?_
          go_simp
          go_wp2
          go_roundw
          case rel => exact ⟨k + 1, by omega, by go_num, by rw [hT2]; exact hm⟩
          case measure => simp [intOf]; omega
        · obtain rfl : k = 256 := by omega
          go_wp2_with (first
              | (with_reducible refine gMs ?_; (refine wpList_make_o (l.length + 1) hm rfl rfl HF.out rfl rfl (by omega) (by omega) ?_; clear hm; intro w g9 hm)))
          have hm0 : Own w0 w ((g9, J .i64 (tab (l.length + 1) (part1 l index 0))) :: (g, J .i64 (tab 257 (cntC l (colp index 0)))) :: rs) ss := by
            rw [vs_zeros] at hm
            rw [tab_congr (f := part1 l index 0) (g := fun _ => 0) (fun i _ => by rw [part1, if_neg (by omega)]), tab_congr (f := cntC l (colp index 0)) (g := cntB l 256) (fun i hi => by rw [cntC, cntB, if_pos (by omega), show colp index 0 = 0 by rw [colp, if_neg (by omega)]]; simp [eqn])]
            exact hm
          clear hm
          have hm := hm0
          clear hm0
          go_loopw [47] (fun u wr => ∃ k : Nat, k ≤ l.length + 1 ∧ u = .int .i64 k ∧ Own w0 wr ((g9, J .i64 (tab (l.length + 1) (part1 l index k))) :: (g, J .i64 (tab 257 (cntC l (colp index k)))) :: rs) ss) (fun u _ => l.length + 1 - (intOf u).toNat)
          case atStart => exact ⟨0, by omega, rfl, hm⟩
          case round =>
            clear hm
            obtain ⟨k, hk, rfl, hm⟩ := hrel
            by_cases hlt : k < l.length + 1
            · have q0 : decide ((k : Int) < ((l.length + 1 : Nat) : Int)) = true := decide_eq_true (by omega)
              have CP := Lib.hid (fun w => place_any ad cp l.length index k w h2 (by omega) (by omega))
              by_cases hi : k = index
              · rw [if_pos hi] at CP
                have HX : Hid (∀ W, Own w0 W ((g9, J .i64 (tab (l.length + 1) (part1 l index k))) :: (g, J .i64 (tab 257 (cntC l (colp index k)))) :: rs) ss → Own w0 W ((g9, J .i64 (tab (l.length + 1) (part1 l index (k + 1)))) :: (g, J .i64 (tab 257 (cntC l (colp index (k + 1))))) :: rs) ss) := Lib.hid fun W h => by
                  rw [show colp index (k + 1) = colp index k by simp only [colp]; rw [if_pos (by omega), if_neg (by omega)]; omega, tab_congr (f := part1 l index (k + 1)) (g := part1 l index k)]
                  · exact h
                  · intro r _
                    simp only [part1, rowsOf]
                    by_cases h1 : r < k
                    · rw [if_pos h1, if_pos (by omega)]
                    · rw [if_neg h1]
                      split
                      · rw [if_pos (by omega)]
                      · rfl
                clear hi
                generalize tab (l.length + 1) (part1 l index k) = T1 at *
                generalize tab 257 (cntC l (colp index k)) = T2 at *
                go_wp2_with (first
                    | (go_at_call 72; refine (CP.out _).mono ?_; rintro e w1 ⟨rfl, rfl⟩))
                go_roundw
                case rel => exact ⟨k + 1, by omega, by go_num, HX.out _ hm⟩
                case measure => simp [intOf]; omega
              · rw [if_neg hi] at CP
                obtain ⟨p, hp⟩ : ∃ p, p = colp index k := ⟨_, rfl⟩
                have hp1 : p = if index < k then k - 1 else k := hp
                have hpl : p < l.length := by split at hp1 <;> omega
                have hp2 : colp index (k + 1) = p + 1 := by rw [colp]; split at hp1 <;> split <;> omega
                have hs := HB.out (gi l p) (by rw [gi_eq l p hpl]; exact List.getElem_mem _)
                obtain ⟨A, rfl, hA0⟩ := HC.out _ hm.dropRow.dropRow p hpl
                have hA : ∀ W, Own w0 W rs ss → W.cell? (A.add p) = some (.int .u8 (gi l p)) := fun W h => by
                  obtain ⟨A2, he, h2⟩ := HC.out W h p hpl
                  cases he
                  exact h2
                obtain ⟨c, hc⟩ := Int.eq_ofNat_of_zero_le hs.1
                rw [hc] at hA
                have hc1 : c < 257 := by omega
                have w1 : IntKind.i64.wrap (c : Int) = c := IntWalk.i64_in _ (by omega)
                have hbd := cntC_bound l p c
                have w3 : IntKind.i64.wrap (cntC l p c + 1) = cntC l p c + 1 := IntWalk.i64_in _ (by omega)
                have HP := Lib.hid (J_tab .i64 (n := 257) (cntC l p) (cntC l (p + 1)) c (cntC l p c + 1) (fun j _ => cntC_set hpl hc j))
                have HG := Lib.hid (at_tab .i64 (cntC l p) hc1)
                have HG2 : Hid ((J .i64 (tab 257 (cntC l (p + 1))))[c]? = some (.int .i64 (cntC l p c + 1))) := Lib.hid (by rw [at_tab .i64 _ hc1, ← cntC_set hpl hc, if_pos rfl])
                have HSZ : Hid (c < (J .i64 (tab 257 (cntC l p))).size) := Lib.hid (by rw [size_J, len_tab]; exact hc1)
                have HO : Hid ((J .i64 (tab (l.length + 1) (part1 l index k))).setIfInBounds k (.int .i64 (cntC l p c + 1)) = J .i64 (tab (l.length + 1) (part1 l index (k + 1)))) := Lib.hid (J_tab .i64 _ _ k _ (fun j hj => by
                  simp only [part1]
                  by_cases e : j = k
                  · subst e
                    rw [if_pos rfl, if_pos (by omega), rowsOf, if_neg hi, aft, ← hp, hc, cntC, Int.toNat_natCast]; omega
                  · rw [if_neg e]
                    by_cases h1 : j < k
                    · rw [if_pos h1, if_pos (by omega)]
                    · rw [if_neg h1, if_neg (by omega)]))
                have HO0 : Hid ((J .i64 (tab (l.length + 1) (part1 l index k))).setIfInBounds (0 + k) (.int .i64 (cntC l p c + 1)) = J .i64 (tab (l.length + 1) (part1 l index (k + 1)))) := Lib.hid (by rw [Nat.zero_add]; exact HO.out)
                have HOZ : Hid (k < (J .i64 (tab (l.length + 1) (part1 l index k))).size) := Lib.hid (by rw [size_J, len_tab]; exact hlt)
                have HOZ0 : Hid (0 + k < (J .i64 (tab (l.length + 1) (part1 l index k))).size) := Lib.hid (by rw [size_J, len_tab]; omega)
                rw [← hp] at CP hm
                clear hA0 hs hc hbd hp1 hp hi
                generalize cntC l p c = z at *
                generalize hT1 : tab 257 (cntC l p) = T1 at *
                generalize hT2 : tab 257 (cntC l (p + 1)) = T2 at *
                generalize tab (l.length + 1) (part1 l index k) = U1 at *
                generalize hU2 : tab (l.length + 1) (part1 l index (k + 1)) = U2 at *
                go_wp2_with (first
                    | (go_at_call 72; refine (CP.out _).mono ?_; rintro e w1 ⟨rfl, rfl⟩)
                    | (with_reducible refine gIa (t := 22) ?_; (refine wpList_run rfl (exec_indexAddr_sl rfl HE.out rfl rfl rfl hpl) ?_))
                    | (with_reducible refine gIa (t := 124) ?_; (refine wpList_run rfl (ix1 (k := k) rfl HF1.out rfl rfl rfl hlt) ?_))
                    | (with_reducible refine gLd (t := 5) ?_; (refine wpList_run rfl (exec_loadaddr rfl rfl one5 (hA _ hm.dropRow.dropRow)) ?_))
                    | (with_reducible refine gLd (t := 3) ?_; (refine wpList_run rfl (ld 1 hm rfl rfl rfl (ot rfl) (by first | exact HG.out | exact HG2.out)) ?_))
                    | (with_reducible refine gSt (t := 3) ?_; (first | (refine list_eff rfl (eff_cell 1 hm rfl rfl (ev_tmp rfl) rfl (ot rfl) HSZ.out rfl rfl HP.out ?_); clear hm; intro w hm; try simp only [puts, List.cons_append, List.nil_append, List.set] at hm) | (refine list_eff rfl (eff_cell 0 hm rfl rfl (ev_tmp rfl) rfl (ot rfl) (by first | exact HOZ.out | exact HOZ0.out) rfl rfl (by first | exact HO.out | exact HO0.out) ?_); clear hm; intro w hm; try simp only [puts, List.cons_append, List.nil_append, List.set] at hm))))
                go_roundw
                case rel => exact ⟨k + 1, by omega, by go_num, by rw [hU2, hp2, hT2]; exact hm⟩
                case measure => simp [intOf]; omega
            · obtain rfl : k = l.length + 1 := by omega
              have q0 : decide (((l.length + 1 : Nat) : Int) < ((l.length + 1 : Nat) : Int)) = false := decide_eq_false (by omega)
              rw [tab_congr (f := part1 l index (l.length + 1)) (g := rowsOf l index) (fun i hi => by rw [part1, if_pos hi])] at hm
              generalize hU : tab (l.length + 1) (rowsOf l index) = U at *
              generalize tab 257 (cntC l (colp index (l.length + 1))) = T at *
              go_wp2
              go_ret
              exact ⟨g9, rfl, by rw [hU]; exact hm.sub (List.Sublist.cons_cons _ (List.sublist_cons_self _ _)) (List.Sublist.refl _)⟩
end Go.Proofs.YtkpbhdhkdonghaaGreat

namespace Go.Proofs.YtkpbhdhkdonghaaGreat
open Go Go.RowKit
def bwk (l : List Int) (index : Nat) : Nat → Nat → List Int → Option (List Int)
  | 0, r, acc => if r = index then some acc else none
  | k + 1, r, acc => if r = index then none else bwk l index k (aft l (colp index r)).toNat (gi l (colp index r) :: acc)
theorem eqn_lsn (l : List Int) (c : Nat) : eqn l c + lsn l c ≤ l.length := by
  have := lsn_bound l (c + 1)
  rw [lsn_step] at this
  omega
theorem eqn_take_lt (l : List Int) (k : Nat) (h : k < l.length) (c : Nat) (hc : gi l k = c) : eqn (l.take k) c + 1 ≤ eqn l c := by
  have h1 := eqn_snoc l k h c
  rw [if_pos hc] at h1
  have h2 : eqn (l.take (k + 1)) c ≤ eqn l c := by
    have := (List.take_sublist (k + 1) l).countP_le (p := fun x : Int => decide (x = (c : Int)))
    simp only [eqn]; omega
  omega
theorem aft_bound {l : List Int} (hb : Bytes l) (k : Nat) (h : k < l.length) : 1 ≤ aft l k ∧ aft l k ≤ l.length := by
  have h2 := eqn_bound (l.take k) (gi l k).toNat
  have h1 := lsn_bound l (gi l k).toNat
  have hs := hb (gi l k) (by rw [gi_eq l k h]; exact List.getElem_mem _)
  have h3 := eqn_take_lt l k h (gi l k).toNat (by omega)
  have h4 := eqn_lsn l (gi l k).toNat
  rw [aft]
  omega
theorem colp_lt {index n r : Nat} (h1 : 1 ≤ index) (h2 : index ≤ n) (hr : r ≤ n) (hne : r ≠ index) : colp index r < n := by
  rw [colp]; split <;> omega
def txt (n : Nat) (acc : List Int) : List Int := List.replicate (n - acc.length) 0 ++ acc
theorem txt_set {n : Nat} {acc : List Int} (x : Int) (h : acc.length < n) : (txt n acc).set (n - acc.length - 1) x = txt n (x :: acc) := by
  rw [txt, txt, List.length_cons]
  obtain ⟨m, hm⟩ : ∃ m, n - acc.length = m + 1 := ⟨n - acc.length - 1, by omega⟩
  rw [hm, show n - (acc.length + 1) = m by omega, show m + 1 - 1 = m by omega, List.replicate_succ', List.append_assoc, List.set_append_right _ _ (by simp)]
  simp
theorem len_txt {n : Nat} {acc : List Int} (h : acc.length ≤ n) : (txt n acc).length = n := by simp [txt]; omega
def BackPost (w0 : World) (o : Option (List Int)) (n : Nat) (rs : List (Nat × Array Value)) (ss : List Sl) (x : Ending) (w' : World) : Prop :=
  match o with
  | none => x = .returned (.tuple #[.slice none 0 0, .int .i64 170]) ∧ Own w0 w' rs ss
  | some t => ∃ g, t.length = n ∧ x = .returned (.tuple #[.slice (some ⟨g, 0, none⟩) n n, .int .i64 0]) ∧ Own w0 w' ((g, J .u8 t) :: rs) ss
set_option maxRecDepth 100000 in
set_option maxHeartbeats 2000000 in
theorem back_any (v : Value) (l : List Int) (index : Nat) (w0 w : World) (rs : List (Nat × Array Value)) (ss : List Sl) (hm : Own w0 w rs ss) (hv : ∀ W, Own w0 W rs ss → In .u8 W v l) (hb : Bytes l) (h1 : 1 ≤ index) (h2 : index ≤ l.length) (hn : l.length ≤ 1000000) : Calls Tryz.prog 27 #[v, .int .i64 index] w (BackPost w0 (bwk l index l.length 0 []) l.length rs ss) := by
  have CB : Hid (∀ {W}, Own w0 W rs ss → Calls Tryz.prog 71 #[v, .int .i64 index] W (fun e w' => ∃ g, e = .returned (.slice (some ⟨g, 0, none⟩) (l.length + 1) (l.length + 1)) ∧ Own w0 w' ((g, J .i64 (tab (l.length + 1) (rowsOf l index))) :: rs) ss)) := Lib.hid fun h => behind_any v l index w0 _ rs ss h hv hb h1 h2 hn
  obtain ⟨ad, cp, rfl, _⟩ := hv w hm
  have HC : Hid (∀ W, Own w0 W rs ss → ∀ k, k < l.length → ∃ A, ad = some A ∧ W.cell? (A.add k) = some (.int .u8 (gi l k))) := Lib.hid fun W h k hk => by
    obtain ⟨ad2, cp2, he, hc⟩ := hv W h
    cases he
    exact hc k hk
  obtain ⟨i3, hE⟩ := el24
  have HE := Lib.hid hE
  obtain ⟨i4, hF⟩ := em22
  have HF := Lib.hid hF
  obtain ⟨i5, hF1⟩ := em124
  have HF1 := Lib.hid hF1
  have HB := Lib.hid hb
  have q1 : decide ((index : Int) < 0) = false := decide_eq_false (by omega)
  have q2 : decide ((l.length : Int) < index) = false := decide_eq_false (by omega)
  have q3 : decide (l.length < index) = false := decide_eq_false (by omega)
  have q4 : ((index : Int) == 0) = false := by simp; omega
  have wl : IntKind.i64.wrap ((l.length : Int) - 1) = (l.length : Int) - 1 := IntWalk.i64_in _ (by omega)
  obtain ⟨o, ho⟩ : ∃ o, o = bwk l index l.length 0 [] := ⟨_, rfl⟩
  rw [← ho]
  have HO := Lib.hid ho
  clear hE hF hF1 hb hv ho
  go_enter Tryz.func27, Tryz.ntmps27
  go_wp2_with (first
    | (go_at_call 71; have _t := hm; refine (CB.out hm).mono ?_; clear _t; clear hm; rintro e w ⟨g7, rfl, hm⟩)
    | (with_reducible refine gMs ?_; (refine wpList_make_o l.length hm rfl rfl HE.out rfl rfl (by omega) (by omega) ?_; clear hm; intro w g8 hm)))
  have hm0 : Own w0 w ((g8, J .u8 (txt l.length [])) :: (g7, J .i64 (tab (l.length + 1) (rowsOf l index))) :: rs) ss := by
    rw [B_zeros] at hm
    rw [txt]
    simpa [J, B] using hm
  clear hm
  have hm := hm0
  clear hm0
  go_loopw [9, 10] (fun z u wr => ∃ (k r : Nat) (acc : List Int), k + acc.length = l.length ∧ r ≤ l.length ∧ u = .int .i64 ((k : Int) - 1) ∧ z = .int .i64 r ∧ o = bwk l index k r acc ∧ Own w0 wr ((g8, J .u8 (txt l.length acc)) :: (g7, J .i64 (tab (l.length + 1) (rowsOf l index))) :: rs) ss) (fun _ u _ => (intOf u + 1).toNat)
  case atStart => exact ⟨l.length, 0, [], by simp, by omega, rfl, rfl, HO.out, hm⟩
  case round =>
    clear hm
    obtain ⟨k, r, acc, hk, hr, rfl, rfl, ho, hm⟩ := hrel
    rcases k with _ | k
    · have q5 : decide ((0 : Int) ≤ ((0 : Nat) : Int) - 1) = false := by decide
      rw [bwk] at ho
      by_cases he : r = index
      · subst he
        rw [if_pos rfl] at ho
        subst ho
        have hla : acc.length = l.length := by omega
        have HT : Hid (txt l.length acc = acc) := Lib.hid (by rw [txt, hla]; simp)
        rw [HT.out] at hm
        have HLA := Lib.hid hla
        clear hla
        go_wp2
        go_ret2
        exact ⟨g8, HLA.out, rfl, hm.sub (List.Sublist.cons_cons _ (List.sublist_cons_self _ _)) (List.Sublist.refl _)⟩
      · have q6 : ((r : Int) == index) = false := by simp; omega
        have q7 : ((r : Int) != index) = true := by simp; omega
        rw [if_neg he] at ho
        subst ho
        clear he
        go_wp2
        go_ret2
        exact ⟨rfl, hm.dropRow.dropRow⟩
    · have q5 : decide ((0 : Int) ≤ ((k + 1 : Nat) : Int) - 1) = true := decide_eq_true (by omega)
      have wk : IntKind.i64.wrap (((k + 1 : Nat) : Int) - 1 - 1) = (k : Int) - 1 := by rw [IntWalk.i64_in _ (by omega)]; omega
      have ek : ((k + 1 : Nat) : Int) - 1 = (k : Int) := by omega
      rw [ek] at q5 wk ⊢
      rw [bwk] at ho
      have CP := Lib.hid (fun w => place_any ad cp l.length index r w h2 hr (by omega))
      by_cases he : r = index
      · rw [if_pos he] at ho CP
        subst ho
        clear he
        go_wp2_with (first
            | (go_at_call 72; refine (CP.out _).mono ?_; rintro e w1 ⟨rfl, rfl⟩))
        go_ret2
        exact ⟨rfl, hm.dropRow.dropRow⟩
      · rw [if_neg he] at ho CP
        obtain ⟨p, hp⟩ : ∃ p, p = colp index r := ⟨_, rfl⟩
        have hpl : p < l.length := by rw [hp]; exact colp_lt h1 h2 hr he
        have hab := aft_bound HB.out p hpl
        rw [← hp] at ho CP
        obtain ⟨A, rfl, hA0⟩ := HC.out _ hm.dropRow.dropRow p hpl
        have hA : ∀ W, Own w0 W rs ss → W.cell? (A.add p) = some (.int .u8 (gi l p)) := fun W h => by
          obtain ⟨A2, he, h2⟩ := HC.out W h p hpl
          cases he
          exact h2
        have hrl : r < l.length + 1 := by omega
        have hkl : k < l.length := by omega
        have HG : Hid ((J .i64 (tab (l.length + 1) (rowsOf l index)))[r]? = some (.int .i64 ((aft l p).toNat : Nat))) := Lib.hid (by rw [at_tab .i64 _ hrl, rowsOf, if_neg he, ← hp, Int.toNat_of_nonneg (by omega)])
        have HG0 : Hid ((J .i64 (tab (l.length + 1) (rowsOf l index)))[0 + r]? = some (.int .i64 ((aft l p).toNat : Nat))) := Lib.hid (by rw [Nat.zero_add]; exact HG.out)
        have HP : Hid ((J .u8 (txt l.length acc)).setIfInBounds k (.int .u8 (gi l p)) = J .u8 (txt l.length (gi l p :: acc))) := Lib.hid (by rw [set_J, ← txt_set _ (by omega), show l.length - acc.length - 1 = k by omega])
        have HP0 : Hid ((J .u8 (txt l.length acc)).setIfInBounds (0 + k) (.int .u8 (gi l p)) = J .u8 (txt l.length (gi l p :: acc))) := Lib.hid (by rw [Nat.zero_add]; exact HP.out)
        have HZ : Hid (k < (J .u8 (txt l.length acc)).size) := Lib.hid (by rw [size_J, len_txt (by omega)]; exact hkl)
        have HZ0 : Hid (0 + k < (J .u8 (txt l.length acc)).size) := Lib.hid (by rw [Nat.zero_add]; exact HZ.out)
        have hra : (aft l p).toNat ≤ l.length := by omega
        have HN := Lib.hid ho
        clear hA0 hab hp he ho
        generalize (aft l p).toNat = r2 at *
        generalize gi l p = x at *
        generalize tab (l.length + 1) (rowsOf l index) = U at *
        go_wp2_with (first
            | (go_at_call 72; refine (CP.out _).mono ?_; rintro e w1 ⟨rfl, rfl⟩)
            | (with_reducible refine gIa (t := 22) ?_; (first | (refine wpList_run rfl (exec_indexAddr_sl rfl HE.out rfl rfl rfl hpl) ?_) | (refine wpList_run rfl (ix1 (k := k) rfl HF.out rfl rfl rfl hkl) ?_)))
            | (with_reducible refine gIa (t := 124) ?_; (refine wpList_run rfl (ix1 (k := r) rfl HF1.out rfl rfl rfl hrl) ?_))
            | (with_reducible refine gLd (t := 5) ?_; (refine wpList_run rfl (exec_loadaddr rfl rfl one5 (hA _ hm.dropRow.dropRow)) ?_))
            | (with_reducible refine gLd (t := 3) ?_; (refine wpList_run rfl (ld 1 hm rfl rfl rfl (ot rfl) (by first | exact HG.out | exact HG0.out)) ?_))
            | (with_reducible refine gSt (t := 5) ?_; (refine list_eff rfl (eff_cell 0 hm rfl rfl (ev_tmp rfl) rfl (ot rfl) (by first | exact HZ.out | exact HZ0.out) rfl rfl (by first | exact HP.out | exact HP0.out) ?_); clear hm; intro w hm; try simp only [puts, List.cons_append, List.nil_append, List.set] at hm)))
        go_roundw
        case rel => exact ⟨k, r2, x :: acc, by rw [List.length_cons]; omega, hra, rfl, rfl, HN.out, hm⟩
        case measure => simp [intOf]
end Go.Proofs.YtkpbhdhkdonghaaGreat

namespace Go.Proofs.YtkpbhdhkdonghaaGreat
open Go Go.RowKit
theorem zrI256 (w : World) : (zeroValue 115).run Tryz.prog w = .ok (.agg (J .i64 (tab 256 fun _ => 0))) w := by kernel_rfl
theorem ag115 (f : Nat → Int) : AggTy Tryz.prog 115 (J .i64 (tab 256 f)).size := by rw [size_J, len_tab]; exact ag (by decide)
theorem sz115 (f g : Nat → Int) : (J .i64 (tab 256 f)).size = (J .i64 (tab 256 g)).size := by rw [size_J, size_J, len_tab, len_tab]
theorem Lies.toIn {k : IntKind} {X : List (Nat × Array Value)} {v : Value} {l : List Int} (h : Lies 1 X v l.length (vs k l)) {w0 w : World} {A : List (Nat × Array Value)} {ss : List Sl} (hm : Own w0 w (A ++ X) ss) : In k w v l := by
  have hf := h.from (A := A) (rs := []) (by rw [List.append_nil]; exact hm)
  obtain ⟨h1, ⟨rfl, h2, h3⟩ | ⟨ad, c, rfl, hc⟩⟩ := hf
  · have hl0 : l.length = 0 := h2
    exact ⟨none, 0, by rw [hl0], fun i hi => by omega⟩
  · exact ⟨some ad, c, rfl, fun i hi => ⟨ad, rfl, hc i _ (get_vs k l i hi)⟩⟩
theorem lsn_succ (l : List Int) (c : Nat) : lsn l c + eqn l c = lsn l (c + 1) := by rw [lsn_step]; omega
set_option maxRecDepth 100000 in
set_option maxHeartbeats 2000000 in
theorem rless_any (ga gd a n : Nat) (l : List Int) (live peak : Int) (w0 : World) (hr : RowIs w0 ga (AR (.slice (some ⟨gd, 0, none⟩) l.length l.length) live peak)) (hd : RowIs w0 gd (B l)) (hb : Bytes l) (h1 : (a : Int) + n ≤ live) (h2 : live ≤ l.length) (h3 : l.length ≤ 1048576) (h4 : 0 < n) : Calls Tryz.prog 66 #[.pointer (some ⟨ga, 0, none⟩), .agg (SP a n)] w0 fun e w' => (e = .returned (.agg (J .i64 (tab 256 (lsn (seg l a (a + n))))))) ∧ Below w0.heap.size w0 w' := by
  have CL : Hid (∀ W, Below w0.heap.size w0 W → Calls Tryz.prog 115 #[.pointer (some ⟨ga, 0, none⟩), .agg (SP a n)] W (OwnB W (seg l a (a + n)))) := Lib.hid fun W h => load_ok ga gd a n l live peak W (hr.keep W h) (hd.keep W h) h1 h2 h3 h4
  have hsl : (seg l a (a + n)).length = n := by simp [seg]; omega
  have hsb : Bytes (seg l a (a + n)) := fun x hx => hb x (List.mem_of_mem_take (List.mem_of_mem_drop hx))
  clear hr hd hb
  generalize seg l a (a + n) = c at *
  have hn : c.length ≤ 1048576 := by omega
  clear h1 h2 h3 h4 hsl
  obtain ⟨i3, hE⟩ := em22
  have HE := Lib.hid hE
  obtain ⟨i4, hE1⟩ := el24
  have HE1 := Lib.hid hE1
  clear hE1
  have HB := Lib.hid hsb
  clear hE hsb
  go_enter Tryz.func66, Tryz.ntmps66
  have hm := Own.nil w0
  go_wp2_with (first
    | (go_at_call 115; have _t := hm; refine (CL.out _ hm.below).mono ?_; clear _t; rintro e w1 h1; obtain ⟨X, v, rfl, hX, hm2⟩ := hm.ofB h1; clear hm h1; have hm := hm2; clear hm2; obtain ⟨ad, cp, rfl⟩ := hX.shape; have HX := Lib.hid hX; clear hX)
    | (with_reducible refine gBx ?_; (refine list_eff rfl (eff_box hm rfl rfl ?_); clear hm; intro w g6 hm))
    | (with_reducible refine gAl ?_; (refine list_eff rfl (eff_alloc hm rfl zrI256 ?_); clear hm; first | (have _t := g5; intro w g hm) | intro w g5 hm))
    | (with_reducible refine gLd (t := 50) ?_; (refine wpList_run rfl (lda 2 hm rfl rfl rfl (aggSP _ _)) ?_)))
  have hm0 := hm.perm List.perm_append_comm
  simp only [List.cons_append, List.nil_append] at hm0
  clear hm
  have hm := hm0
  clear hm0
  have HI : Hid (∀ W (r1 r2 r3 : Nat × Array Value), Own w0 W (r1 :: r2 :: r3 :: X) [] → In .u8 W (.slice ad c.length cp) c) := Lib.hid fun W r1 r2 r3 h => HX.out.toIn (A := [r1, r2, r3]) h
  have h00 : ∀ i, i < 256 → (fun _ : Nat => (0 : Int)) i = eqn (c.take 0) i := fun i _ => by simp [eqn]
  rw [tab_congr h00] at hm
  clear h00
  go_loopw [14] (fun u wr => ∃ k : Nat, k ≤ c.length ∧ u = .int .i64 k ∧ Own w0 wr ((g, J .i64 (tab 256 (eqn (c.take k)))) :: (g5, J .i64 (tab 256 (eqn (c.take 0)))) :: (g6, SP a n) :: X) []) (fun u _ => c.length - (intOf u).toNat)
  case atStart => exact ⟨0, by omega, rfl, hm⟩
  case round =>
    clear hm
    obtain ⟨k, hk, rfl, hm⟩ := hrel
    by_cases hlt : k < c.length
    · have hs := HB.out (gi c k) (by rw [gi_eq c k hlt]; exact List.getElem_mem _)
      have hin := HI.out _ _ _ _ hm
      obtain ⟨ad2, cp2, he, hc⟩ := hin
      cases he
      obtain ⟨A, rfl, hcell⟩ := hc k hlt
      obtain ⟨b, hb⟩ := Int.eq_ofNat_of_zero_le hs.1
      have hb1 : b < 256 := by omega
      rw [hb] at hcell
      have hbd := eqn_bound (c.take k) b
      have hlt2 := List.length_take_le' k c
      have w3 : IntKind.i64.wrap (eqn (c.take k) b + 1) = eqn (c.take k) b + 1 := IntWalk.i64_in _ (by omega)
      have HG := Lib.hid (at_tab .i64 (eqn (c.take k)) hb1)
      have HP := Lib.hid (J_tab .i64 (n := 256) (eqn (c.take k)) (eqn (c.take (k + 1))) b (eqn (c.take k) b + 1) (fun j _ => by
        rw [eqn_snoc c k hlt, hb]
        by_cases e : j = b
        · subst e; simp
        · rw [if_neg e, if_neg (by omega), Int.add_zero]))
      have HSZ : Hid (b < (J .i64 (tab 256 (eqn (c.take k)))).size) := Lib.hid (by rw [size_J, len_tab]; exact hb1)
      clear hs hc hb hbd hlt2
      generalize eqn (c.take k) b = y at *
      generalize hT1 : tab 256 (eqn (c.take k)) = T1 at *
      generalize hT2 : tab 256 (eqn (c.take (k + 1))) = T2 at *
      go_wp2_with (first
          | (with_reducible refine gIa (t := 22) ?_; (refine wpList_run rfl (exec_indexAddr_sl rfl HE1.out rfl rfl rfl hlt) ?_))
          | (with_reducible refine gLd (t := 5) ?_; (refine wpList_run rfl (exec_loadaddr rfl rfl one5 hcell) ?_))
          | (with_reducible refine gLd (t := 3) ?_; (refine wpList_run rfl (ld 0 hm rfl rfl rfl (ot rfl) HG.out) ?_))
          | (with_reducible refine gSt (t := 3) ?_; (refine list_eff rfl (eff_cell 0 hm rfl rfl (ev_tmp rfl) rfl (ot rfl) HSZ.out rfl rfl HP.out ?_); clear hm; intro w hm; try simp only [puts, List.cons_append, List.nil_append, List.set] at hm)))
      go_roundw
      case rel => exact ⟨k + 1, by omega, by go_num, by rw [hT2]; exact hm⟩
      case measure => simp [intOf]; omega
    · obtain rfl : c.length = k := by omega
      rw [List.take_length] at hm
      go_wp2
      have hm0 : Own w0 wr ((g, J .i64 (tab 256 (eqn c))) :: (g5, J .i64 (tab 256 (fun j => if j < 0 then lsn c j else 0))) :: (g6, SP a n) :: X) [] := by
        rw [tab_congr (f := fun j => if j < 0 then lsn c j else 0) (g := eqn (c.take 0)) (fun i _ => by simp [eqn])]
        exact hm
      clear hm
      have hm := hm0
      clear hm0
      go_loopw [8, 24] (fun z u wr => ∃ k : Nat, k ≤ 256 ∧ u = .int .i64 k ∧ z = .int .i64 (lsn c k) ∧ Own w0 wr ((g, J .i64 (tab 256 (eqn c))) :: (g5, J .i64 (tab 256 (fun j => if j < k then lsn c j else 0))) :: (g6, SP a n) :: X) []) (fun _ u _ => 256 - (intOf u).toNat)
      case atStart => exact ⟨0, by omega, rfl, by rw [lsn_zero HB.out], hm⟩
      case round =>
        clear hm
        obtain ⟨k, hk, rfl, rfl, hm⟩ := hrel
        by_cases hlt : k < 256
        · have hbd := eqn_lsn c k
          have b1 := lsn_bound c k
          have b2 := eqn_bound c k
          have w3 : IntKind.i64.wrap (lsn c k + eqn c k) = lsn c k + eqn c k := IntWalk.i64_in _ (by omega)
          have HG := Lib.hid (at_tab .i64 (eqn c) hlt)
          have HE2 := Lib.hid (lsn_succ c k)
          have HP := Lib.hid (J_tab .i64 (n := 256) (fun j => if j < k then lsn c j else 0) (fun j => if j < k + 1 then lsn c j else 0) k (lsn c k) (fun j _ => by
            by_cases e : j = k
            · subst e; rw [if_pos rfl, if_pos (by omega)]
            · rw [if_neg e]
              by_cases h : j < k
              · rw [if_pos h, if_pos (by omega)]
              · rw [if_neg h, if_neg (by omega)]))
          have HSZ : Hid (k < (J .i64 (tab 256 (fun j => if j < k then lsn c j else 0))).size) := Lib.hid (by rw [size_J, len_tab]; exact hlt)
          clear hbd b1 b2
          generalize lsn c k = x at *
          generalize eqn c k = y at *
          generalize hT1 : tab 256 (fun j => if j < k then lsn c j else 0) = T1 at *
          generalize hT2 : tab 256 (fun j => if j < k + 1 then lsn c j else 0) = T2 at *
          generalize hT3 : tab 256 (eqn c) = T3 at *
          go_wp2_with (first
              | (with_reducible refine gLd (t := 3) ?_; (refine wpList_run rfl (ld 0 hm rfl rfl rfl (ot rfl) HG.out) ?_))
              | (with_reducible refine gSt (t := 3) ?_; (refine list_eff rfl (eff_cell 1 hm rfl rfl (ev_tmp rfl) rfl (ot rfl) HSZ.out rfl rfl HP.out ?_); clear hm; intro w hm; try simp only [puts, List.cons_append, List.nil_append, List.set] at hm)))
          go_roundw
          case rel => exact ⟨k + 1, by omega, by go_num, by rw [HE2.out], by rw [hT2]; exact hm⟩
          case measure => simp [intOf]; omega
        · obtain rfl : k = 256 := by omega
          rw [tab_congr (f := fun j => if j < 256 then lsn c j else 0) (g := lsn c) (fun i hi => by rw [if_pos hi])] at hm
          go_wp2_with (first
              | (with_reducible refine gLd (t := 115) ?_; (refine wpList_run rfl (lda 1 hm rfl rfl rfl (ag115 _)) ?_))
              | (with_reducible refine gSt (t := 115) ?_; (refine list_eff rfl (eff_store 1 hm rfl rfl (ev_tmp rfl) rfl (ag115 _) rfl (J_one _ _) ?_); clear hm; intro w hm; try simp only [puts, List.cons_append, List.nil_append, List.set] at hm)))
          refine bodyPost_ret (results_agg1 rfl rfl (hm.row 1 rfl) (ag115 _)) rfl ⟨rfl, hm.below⟩
end Go.Proofs.YtkpbhdhkdonghaaGreat

namespace Go.Proofs.YtkpbhdhkdonghaaGreat
open Go Go.RowKit
theorem From.one {w : World} {g : Nat} {v : Value} (h : RowIs w g #[v]) : From 1 w (.slice (some ⟨g, 0, none⟩) 1 1) 1 [v] := by
  refine From.of_row h 0 rfl (fun j u hj => ?_)
  have hl := (List.getElem?_eq_some_iff.1 hj).1
  simp at hl
  subst hl
  simpa using hj
end Go.Proofs.YtkpbhdhkdonghaaGreat

namespace Go.Proofs.YtkpbhdhkdonghaaGreat
open Go Go.RowKit
theorem Own.behind {w0 w : World} {X rs : List (Nat × Array Value)} {ss : List Sl} (h : Own w0 w (X ++ rs) ss) : Own w0 w rs ss := h.sub (List.sublist_append_right X rs) (List.Sublist.refl _)
end Go.Proofs.YtkpbhdhkdonghaaGreat
