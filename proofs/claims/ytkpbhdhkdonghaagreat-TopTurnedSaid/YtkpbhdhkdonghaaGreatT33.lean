/-
  Part 33 of the proof.
-/
import Derived.Test.YtkpbhdhkdonghaaGreatT11
import Derived.Test.YtkpbhdhkdonghaaGreatT31
set_option linter.all false
namespace Go.Proofs.YtkpbhdhkdonghaaGreat
open Go Go.RowKit
noncomputable def u8sOf : List Value → Option (List Nat)
  | [] => some []
  | v :: l => match v with
    | .int .u8 (.ofNat n) => cond (Nat.ble n 255) (match u8sOf l with | some m => some (n :: m) | none => none) none
    | _ => none
noncomputable def u8Q (v : Value) : Option Nat :=
  Value.rec (motive_1 := fun _ => Option Nat) (motive_2 := fun _ => Option Nat) (motive_3 := fun _ => Option Nat) (fun _ => none) (fun k n => cond (Nat.beq (kIdx k) 4) (Int.rec (motive := fun _ => Option Nat) (fun m => cond (Nat.ble m 255) (some m) none) (fun _ => none) n) none) (fun _ _ => none) (fun _ _ _ => none) (fun _ => none) (fun _ => none) (fun _ _ _ => none) (fun _ => none) (fun _ => none) (fun _ _ _ _ _ => none) none (fun _ _ _ => none) none (fun _ _ => none) (fun _ _ => none) (fun _ _ => none) none (fun _ _ _ _ => none) v
noncomputable def u8sQ (l : List Value) : Option (List Nat) :=
  List.rec (motive := fun _ => Option (List Nat)) (some []) (fun v _ ih => Option.rec (motive := fun _ => Option (List Nat)) none (fun x => Option.rec (motive := fun _ => Option (List Nat)) none (fun m => some (x :: m)) ih) (u8Q v)) l
noncomputable def intQ (k : IntKind) (n : Int) (b : Value) : Bool :=
  Value.rec (motive_1 := fun _ => Bool) (motive_2 := fun _ => Bool) (motive_3 := fun _ => Bool) (fun _ => false) (fun j m => cond (Nat.beq (kIdx k) (kIdx j)) (Int.rec (motive := fun _ => Bool) (fun x => Int.rec (motive := fun _ => Bool) (fun y => Nat.beq x y) (fun _ => false) m) (fun _ => false) n) false) (fun _ _ => false) (fun _ _ _ => false) (fun _ => false) (fun _ => false) (fun _ _ _ => false) (fun _ => false) (fun _ => false) (fun _ _ _ _ _ => false) false (fun _ _ _ => false) false (fun _ _ => false) (fun _ _ => false) (fun _ _ => false) false (fun _ _ _ _ => false) b
noncomputable def eqQ1 (a b : Value) : Bool :=
  Value.rec (motive_1 := fun _ => Bool) (motive_2 := fun _ => Bool) (motive_3 := fun _ => Bool) (fun _ => false) (fun k n => intQ k n b) (fun _ _ => false) (fun _ _ _ => false) (fun _ => false) (fun _ => false) (fun _ _ _ => false) (fun _ => false) (fun _ => false) (fun _ _ _ _ _ => false) false (fun _ _ _ => false) false (fun _ _ => false) (fun _ _ => false) (fun _ _ => false) false (fun _ _ _ _ => false) a
noncomputable def eqQ (a b : List Value) : Bool :=
  List.rec (motive := fun _ => List Value → Bool) (fun l => List.rec (motive := fun _ => Bool) true (fun _ _ _ => false) l) (fun x _ ih l => List.rec (motive := fun _ => Bool) false (fun y t _ => cond (eqQ1 x y) (ih t) false) l) a b
noncomputable def nidx (c : Nat) : List Nat → Nat → Int
  | [], _ => .negSucc 0
  | x :: l, i => cond (Nat.beq x c) (.ofNat i) (nidx c l (Nat.add i 1))
noncomputable def sum258 (args : List Value) (h : AH) : Option (Option (Value × AH)) := match args with
  | [.slice a n c, .int .u8 (.ofNat x)] => cond (Nat.ble 1 n && Nat.ble x 255) (match aelems 1 n h (.slice a n c) with
    | some vs => match u8sQ vs with
      | some l => fint (nidx x l 0) fun z => some (some (.int .i64 z, h))
      | none => none
    | none => none) none
  | _ => none
noncomputable def sum251 (args : List Value) (h : AH) : Option (Option (Value × AH)) := match args with
  | [.slice a 1 c, .int .i64 (.ofNat n)] => cond (Nat.ble n 65536) (match aelems 1 1 h (.slice a 1 c) with
    | some [.int .u8 (.ofNat x)] => match h.new (.row (List.replicate n (.int .u8 (.ofNat x))) 1) with
      | some (k, h') => some (some (.slice (some ⟨k, 0, none⟩) n n, h'))
      | none => none
    | _ => none) none
  | _ => none
theorem u8sQ_eq : ∀ l : List Value, u8sQ l = u8sOf l
  | [] => rfl
  | v :: l => by
    have h0 : u8sQ (v :: l) = Option.rec (motive := fun _ => Option (List Nat)) none (fun x => Option.rec (motive := fun _ => Option (List Nat)) none (fun m => some (x :: m)) (u8sQ l)) (u8Q v) := rfl
    rw [h0, u8sQ_eq l]
    cases v with
    | int k n =>
      cases k <;> first
        | (cases n with
           | ofNat m =>
             show Option.rec (motive := fun _ => Option (List Nat)) none _ (cond (Nat.ble m 255) (some m) none) = cond (Nat.ble m 255) _ none
             cases Nat.ble m 255 with
             | false => rfl
             | true => cases u8sOf l <;> rfl
           | negSucc m => rfl)
        | (cases n <;> rfl)
    | _ => rfl
theorem eqQ1_eq {a b : Value} (h : eqQ1 a b = true) : a = b := by
  cases a with
  | int k n =>
    cases b with
    | int j m =>
      have h' : cond (Nat.beq (kIdx k) (kIdx j)) (Int.rec (motive := fun _ => Bool) (fun x => Int.rec (motive := fun _ => Bool) (fun y => Nat.beq x y) (fun _ => false) m) (fun _ => false) n) false = true := h
      cases hk : Nat.beq (kIdx k) (kIdx j) with
      | false => rw [hk] at h'; cases h'
      | true =>
        rw [hk] at h'
        have e1 := kIdx_inj hk
        subst e1
        cases n with
        | ofNat x =>
          cases m with
          | ofNat y =>
            have h' : Nat.beq x y = true := h'
            rw [Nat.eq_of_beq_eq_true h']
          | negSucc y => cases h'
        | negSucc x => cases h'
    | _ => cases h
  | _ => cases h
theorem eqQ_eq : ∀ {a b : List Value}, eqQ a b = true → a = b
  | [], [], _ => rfl
  | [], _ :: _, h => by cases h
  | _ :: _, [], h => by cases h
  | x :: a, y :: b, h => by
    have h' : cond (eqQ1 x y) (eqQ a b) false = true := h
    cases hx : eqQ1 x y with
    | false => rw [hx] at h'; cases h'
    | true =>
      rw [hx] at h'
      rw [eqQ1_eq hx, eqQ_eq h']
theorem fint_eq {β : Type} (z : Int) (k : Int → β) : fint z k = k z := by
  cases z <;> rfl
theorem nidx_pos : ∀ (l : List Nat) (c i : Nat), nidx c l i = if pos (l.map Int.ofNat) c = -1 then -1 else pos (l.map Int.ofNat) c + i
  | [], c, i => by simp [nidx, pos]
  | x :: l, c, i => by
    show cond (Nat.beq x c) (.ofNat i) (nidx c l (i + 1)) = _
    cases hb : Nat.beq x c with
    | true =>
      have := Nat.eq_of_beq_eq_true hb
      subst this
      simp [pos, List.findIdx_cons]
    | false =>
      have hne : ¬ x = c := fun h => by subst h; rw [Nat.beq_refl] at hb; cases hb
      have hne' : (Int.ofNat x == (c : Int)) = false := by
        rw [beq_eq_false_iff_ne]
        intro h
        exact hne (Int.ofNat.inj h)
      simp only [cond_false]
      rw [nidx_pos l c (i + 1)]
      have hp : pos (List.map Int.ofNat (x :: l)) c = if pos (l.map Int.ofNat) c = -1 then -1 else pos (l.map Int.ofNat) c + 1 := by
        simp only [pos, List.map_cons, List.findIdx_cons, hne', cond_false, List.length_cons]
        split <;> split <;> first | omega | (split <;> omega)
      rw [hp]
      have hge : pos (l.map Int.ofNat) c = -1 ∨ 0 ≤ pos (l.map Int.ofNat) c := by
        simp only [pos]
        split <;> omega
      rcases hge with h1 | h1
      · rw [if_pos h1, if_pos h1, if_pos rfl]
      · rw [if_neg (by omega), if_neg (by omega), if_neg (by omega)]
        push_cast
        omega
theorem u8sOf_some {e : En} : ∀ {l us : List Value} {m : List Nat}, u8sOf l = some m → VRs e l us → us = m.map (fun n => Value.int .u8 (Int.ofNat n)) ∧ ∀ x ∈ m, x ≤ 255
  | [], us, m, h, hv => by
    cases h
    cases hv
    exact ⟨rfl, fun x hx => by cases hx⟩
  | v :: l, us, m, h, hv => by
    unfold u8sOf at h
    split at h
    · rename_i n
      cases hb : Nat.ble n 255 with
      | false => rw [hb] at h; cases h
      | true =>
        rw [hb] at h
        simp only [cond_true] at h
        split at h
        · rename_i m' hm
          cases h
          cases hv with
          | cons h1 h2 =>
            cases h1
            obtain ⟨q1, q2⟩ := u8sOf_some hm h2
            refine ⟨by rw [q1]; rfl, fun x hx => ?_⟩
            rcases List.mem_cons.1 hx with rfl | hx
            · exact Nat.le_of_ble_eq_true hb
            · exact q2 x hx
        · cases h
    · cases h
theorem sum258_ok {args : List Value} {h : AH} {v : Value} {h' : AH} (hx : sum258 args h = some (some (v, h'))) {w0 : Base} {e : En} {w : World} {args' : List Value} (hv : VRs e args args') (hr : HX e h w0 w) :
    Calls Tryz.prog 258 args'.toArray w fun x w' => ∃ u e', x = .returned u ∧ e.le e' ∧ VR e' v u ∧ HX e' h' w0 w' := by
  unfold sum258 at hx
  split at hx
  · rename_i a n c x
    cases hb : (Nat.ble 1 n && Nat.ble x 255) with
    | false => rw [hb] at hx; cases hx
    | true =>
      rw [hb] at hx
      simp only [cond_true] at hx
      rw [Bool.and_eq_true] at hb
      have hn := Nat.le_of_ble_eq_true hb.1
      have hx255 := Nat.le_of_ble_eq_true hb.2
      split at hx
      · rename_i vs0 hel
        split at hx
        · rename_i l hl
          rw [u8sQ_eq] at hl
          rw [fint_eq] at hx
          cases hx
          cases hv with
          | cons hv1 hv2 =>
          cases hv2 with
          | cons hv2 hv3 =>
          cases hv3
          cases hv2
          obtain ⟨g, off, m, c', us, e1, e2, ⟨_, _, e3⟩, e4, e5, e6⟩ := elems_sound hr hel hv1 (fun _ _ _ h => by cases h; exact Nat.le_refl _) (by omega)
          cases e3
          subst e1
          obtain ⟨q1, q2⟩ := u8sOf_some hl e4
          have hlen : l.length = n := by rw [← Nat.mul_one n, ← e5, q1, List.length_map]
          have hc := indexByte_any g off n c' (l.map Int.ofNat) (x : Int) w (by simp [hlen]) (fun y hy => by
            obtain ⟨k, hk, rfl⟩ := List.mem_map.1 hy
            have := q2 k hk
            exact ⟨Int.natCast_nonneg _, by show (k : Int) < 256; omega⟩) ⟨Int.natCast_nonneg _, by omega⟩ (fun i hi => by
            have := e6 i (.int .u8 ((l.map Int.ofNat).getD i 0)) (by
              rw [q1, List.getElem?_map]
              have h1 : i < l.length := by omega
              rw [List.getElem?_eq_getElem h1]
              simp [List.getElem?_eq_getElem h1])
            rw [Addr.add_lit] at this
            exact this)
          refine hc.mono ?_
          rintro ed w' ⟨rfl, rfl⟩
          refine ⟨_, e, rfl, En.le.refl e, ?_, hr⟩
          have : nidx x l 0 = pos (l.map Int.ofNat) x := by
            rw [nidx_pos]
            split
            · rename_i h1; rw [h1]
            · simp
          rw [this]
          exact .int _ _
        · cases hx
      · cases hx
  · cases hx
theorem below_grown {w w' : World} (hb : Below w.heap.size w w') : w.grownBy w' none := ⟨hb.os, hb.tape, hb.output, hb.size, fun k hk _ => hb.block k hk⟩
theorem sum251_ok {args : List Value} {h : AH} {v : Value} {h' : AH} (hx : sum251 args h = some (some (v, h'))) {w0 : Base} {e : En} {w : World} {args' : List Value} (hv : VRs e args args') (hr : HX e h w0 w) :
    Calls Tryz.prog 251 args'.toArray w fun x w' => ∃ u e', x = .returned u ∧ e.le e' ∧ VR e' v u ∧ HX e' h' w0 w' := by
  unfold sum251 at hx
  split at hx
  · rename_i a c n
    cases hb : Nat.ble n 65536 with
    | false => rw [hb] at hx; cases hx
    | true =>
      rw [hb] at hx
      simp only [cond_true] at hx
      have hn := Nat.le_of_ble_eq_true hb
      split at hx
      · rename_i x hel
        split at hx
        · rename_i k h2 hnew
          cases hx
          cases hv with
          | cons hv1 hv2 =>
          cases hv2 with
          | cons hv2 hv3 =>
          cases hv3
          cases hv2
          obtain ⟨g, off, m, c', us, e1, e2, ⟨_, _, e3⟩, e4, e5, e6⟩ := elems_sound hr hel hv1 (fun _ _ _ h => by cases h; exact Nat.le_refl _) (by omega)
          cases e3
          subst e1
          cases e4 with
          | cons e4 e4' =>
          cases e4'
          cases e4
          have hA : w.cell? ⟨g, off, none⟩ = some (.int .u8 (x : Int)) := by
            have := e6 0 _ rfl
            rw [Addr.add_lit] at this
            exact this
          refine (repeat_any (x : Int) _ n w hn ⟨g, off, none⟩ c' rfl hA).mono ?_
          rintro ed w' ⟨⟨g2, cells, rfl, ⟨ty, hrow⟩, hge, htk⟩, hbel⟩
          have hlr : (List.replicate n (x : Int)).length = n := List.length_replicate
          rw [hlr] at htk ⊢
          have hvs : vs .u8 (List.replicate n (x : Int)) = List.replicate n (.int .u8 (x : Int)) := by simp [vs]
          rw [hvs] at htk
          have hcs : n ≤ cells.size := by
            have := congrArg List.length htk
            rw [List.length_take, List.length_replicate, Array.length_toList] at this
            omega
          have hvr : ∀ e : En, VRs e (List.replicate n (.int .u8 (x : Int))) (List.replicate n (.int .u8 (x : Int))) := fun e => VRs.self (by rw [List.all_eq_true]; intro y hy; rw [List.eq_of_mem_replicate hy]; rfl)
          obtain ⟨rfl, q1, q2⟩ := hr.add hnew (below_grown hbel) hge (g := g2) (c := (n, 0)) ⟨cells, ty, hrow, by simpa using hcs, by
            rw [List.drop_zero, List.length_replicate, htk]
            exact hvr _, fun _ => ⟨by simp, by simpa using hcs⟩, fun h => by cases h⟩
          refine ⟨_, _, rfl, q1, ?_, q2⟩
          have hHN : HALF = 2305843009213693952 := rfl
          have hcap : capOf n n = n := by unfold capOf; rw [if_pos (by omega)]
          have h3 := VR.slice (e := e.add h.n g2 (n, 0)) (off := 0) (n := n) (c := n) En.add_self (by simp only [hcap]; exact Nat.le_refl _) (fun hh => absurd hh (by omega))
          simp only [hcap] at h3
          exact h3
        · cases hx
      · cases hx
  · cases hx
end Go.Proofs.YtkpbhdhkdonghaaGreat
