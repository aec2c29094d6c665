/-
  Part 36 of the proof.
-/
import Derived.Test.YtkpbhdhkdonghaaGreatT35
set_option linter.all false
namespace Go.Proofs.YtkpbhdhkdonghaaGreat
open Go Go.RowKit
noncomputable def okRow : List Nat → Nat → Nat → Bool
  | [], _, _ => true
  | x :: l, k, s => Nat.ble x 15 && (cond (Nat.ble s k) (Nat.beq x 0) true && okRow l (Nat.add k 1) s)
noncomputable def okRowQ (l : List Nat) : Nat → Nat → Bool :=
  List.rec (motive := fun _ => Nat → Nat → Bool) (fun _ _ => true) (fun x _ ih k s => cond (Nat.ble x 15) (cond (cond (Nat.ble s k) (Nat.beq x 0) true) (fnat (Nat.add k 1) fun k => ih k s) false) false) l
theorem okRowQ_eq : ∀ (l : List Nat) (k s : Nat), okRowQ l k s = okRow l k s
  | [], _, _ => rfl
  | x :: l, k, s => by
    show cond (Nat.ble x 15) (cond (cond (Nat.ble s k) (Nat.beq x 0) true) (okRowQ l (Nat.add k 1) s) false) false = (Nat.ble x 15 && (cond (Nat.ble s k) (Nat.beq x 0) true && okRow l (Nat.add k 1) s))
    rw [okRowQ_eq l]
    cases Nat.ble x 15 <;> cases cond (Nat.ble s k) (Nat.beq x 0) true <;> rfl
noncomputable def turnN (was now way : Nat) : Bool := match way with
  | 0 => Nat.beq was now
  | 1 => Nat.blt was now
  | _ => Nat.blt now was
noncomputable def okN (l : List Nat) (s b n d : Nat) : Bool :=
  lenIs 258 l && (Nat.blt s 258 && (Nat.ble b 5 && (Nat.ble n 15 && (Nat.ble d 2 && (okRowQ l 0 s && (cond (Nat.blt b 4) (Nat.beq s 0 && (Nat.beq d 0 && Nat.blt n (Nat.pow 2 b))) true &&
    (match s with
      | 0 => (match d with | 1 => Nat.blt 0 n | 2 => Nat.blt n 15 | _ => true)
      | s + 1 => (match lat l s with | some x => turnN x n d | none => false))))))))
noncomputable def nextN (l : List Nat) (s b n d bit : Nat) : Option (List Nat × Nat × Nat × Nat × Nat) :=
  cond (Nat.blt b 4) (some (l, s, Nat.add b 1, Nat.add (Nat.mul 2 n) bit, d))
    (cond (Nat.beq b 4) (cond (Nat.beq bit 0) (cond (Nat.blt (Nat.add s 1) 258) (match llay l s [n] with | some m => some (m, Nat.add s 1, b, n, 0) | none => none) none) (some (l, s, 5, n, d)))
      (cond (Nat.beq bit 0) (cond (not (Nat.beq d 2) && Nat.blt n 15) (some (l, s, 4, Nat.add n 1, 1)) none) (cond (not (Nat.beq d 1) && Nat.blt 0 n) (some (l, s, 4, Nat.sub n 1, 2)) none)))
noncomputable def rowT (l : List Nat) (s b n d : Nat) : List Value := l.map (fun x => Value.int .u8 (.ofNat x)) ++ [.int .i64 (.ofNat s), .int .i64 (.ofNat b), .int .i64 (.ofNat n), .int .i64 (.ofNat d)]
noncomputable def sum126 (args : List Value) (h : AH) : Option (Option (Value × AH)) := match args with
  | [.agg cs, .int .i64 (.ofNat bit)] => match ltk 258 cs.toList, lseg cs.toList 258 4 with
    | some ls, some [.int .i64 (.ofNat s), .int .i64 (.ofNat b), .int .i64 (.ofNat n), .int .i64 (.ofNat d)] => match u8sQ ls with
      | some l => cond (lenIs 262 cs.toList && (Nat.ble bit 1 && okN l s b n d)) (match nextN l s b n d bit with
        | some (l', s', b', n', d') => tell (.tuple [.agg (rowT l' s' b' n' d').toArray, .bool false, .int .i64 0].toArray) h
        | none => none) none
      | none => none
    | _, _ => none
  | _ => none
theorem bltT {a b : Nat} (h : Nat.blt a b = true) : a < b := Nat.le_of_ble_eq_true h
theorem bltF {a b : Nat} (h : Nat.blt a b = false) : b ≤ a := by
  rcases Nat.lt_or_ge a b with h1 | h1
  · have : Nat.blt a b = true := Nat.ble_eq_true_of_le h1
    rw [this] at h; cases h
  · exact h1
theorem beqF {a b : Nat} (h : Nat.beq a b = false) : a ≠ b := fun e => by subst e; rw [Nat.beq_refl] at h; cases h
theorem okRow_get : ∀ (l : List Nat) (k s : Nat), okRow l k s = true → ∀ i x, l[i]? = some x → x ≤ 15 ∧ (s ≤ k + i → x = 0)
  | [], k, s, h, i, x, hx => by simp at hx
  | y :: l, k, s, h, i, x, hx => by
    unfold okRow at h
    simp only [Bool.and_eq_true] at h
    obtain ⟨h1, h2, h3⟩ := h
    cases i with
    | zero =>
      simp only [List.getElem?_cons_zero, Option.some.injEq] at hx
      subst hx
      refine ⟨Nat.le_of_ble_eq_true h1, fun hs => ?_⟩
      rw [Nat.ble_eq_true_of_le (show s ≤ k by omega)] at h2
      exact Nat.eq_of_beq_eq_true h2
    | succ i =>
      have := okRow_get l (Nat.add k 1) s h3 i x (by simpa using hx)
      exact ⟨this.1, fun hs => this.2 (by show s ≤ k + 1 + i; omega)⟩
def ofN (l : List Nat) : List Int := l.map Int.ofNat
theorem gi_ofN (l : List Nat) (k : Nat) : gi (ofN l) k = ((l[k]?.getD 0 : Nat) : Int) := by
  rw [gi, ofN, List.getD_eq_getElem?_getD, List.getElem?_map]
  cases l[k]? <;> rfl
theorem turnN_eq {x n d : Nat} (h : turnN x n d = true) : turn x n d = true := by
  unfold turnN at h
  unfold turn
  split at h
  · have := Nat.eq_of_beq_eq_true h
    subst this
    simp
  · have := bltT h
    simp
    omega
  · rename_i h0 h1
    have h0 : d ≠ 0 := h0
    have h1 : d ≠ 1 := h1
    rw [if_neg (by omega), if_neg (by omega)]
    have := bltT h
    simpa using this
theorem okN_ok {l : List Nat} {s b n d : Nat} (h : okN l s b n d = true) : (⟨ofN l, s, b, n, d⟩ : TT).ok := by
  unfold okN at h
  simp only [Bool.and_eq_true] at h
  obtain ⟨h1, h2, h3, h4, h5, h6, h7, h8⟩ := h
  have h1 := lenIs_some _ _ h1
  rw [okRowQ_eq] at h6
  have h2 := bltT h2
  have h3 := Nat.le_of_ble_eq_true h3
  have h4 := Nat.le_of_ble_eq_true h4
  have h5 := Nat.le_of_ble_eq_true h5
  have hrow := okRow_get l 0 s h6
  have hlen : (ofN l).length = 258 := by rw [ofN, List.length_map, h1]
  have hknown : Known (ofN l) s := by
    intro k hk
    rw [gi_ofN, List.getElem?_eq_getElem (by omega)]
    have := hrow k _ (List.getElem?_eq_getElem (show k < l.length by omega))
    simp only [Option.getD_some]
    refine ⟨by omega, by omega, fun hs => ?_⟩
    have := this.2 (by omega)
    omega
  refine ⟨hlen, by simp only; omega, by simp only; omega, by simp only; omega, by simp only; omega, hknown, fun hb => ?_, fun hs hd => ?_, fun hs hd => ?_, fun hs => ?_⟩
  · simp only at hb ⊢
    have hb4 : Nat.blt b 4 = true := Nat.ble_eq_true_of_le (show b + 1 ≤ 4 by omega)
    rw [hb4] at h7
    simp only [cond_true, Bool.and_eq_true] at h7
    have e1 := Nat.eq_of_beq_eq_true h7.1
    have e2 := Nat.eq_of_beq_eq_true h7.2.1
    have e3 := bltT h7.2.2
    subst e1 e2
    refine ⟨rfl, rfl, ?_, ?_⟩
    · apply List.ext_getElem?
      intro i
      by_cases hi : i < 258
      · have hq := hrow i _ (List.getElem?_eq_getElem (show i < l.length by omega))
        rw [ofN, List.getElem?_map, List.getElem?_eq_getElem (by omega)]
        rw [hq.2 (by omega), z258, List.getElem?_replicate, if_pos hi]
        rfl
      · rw [List.getElem?_eq_none (by omega), List.getElem?_eq_none (by rw [len_z258]; omega)]
    · have : ((2 ^ b : Nat) : Int) = 2 ^ b := by push_cast; rfl
      rw [Int.toNat_natCast, ← this]
      exact_mod_cast e3
  · simp only at hs hd ⊢
    obtain rfl : s = 0 := by omega
    obtain rfl : d = 1 := by omega
    have := bltT h8
    omega
  · simp only at hs hd ⊢
    obtain rfl : s = 0 := by omega
    obtain rfl : d = 2 := by omega
    have := bltT h8
    omega
  · simp only at hs ⊢
    cases s with
    | zero => omega
    | succ s =>
      simp only [lat_eq] at h8
      split at h8
      · rename_i x hx
        rw [show ((s + 1 : Nat) : Int).toNat - 1 = s by omega, gi_ofN, hx]
        exact turnN_eq h8
      · cases h8
theorem nextN_eq {l : List Nat} {s b n d bit : Nat} {l' : List Nat} {s' b' n' d' : Nat} (hb : bit ≤ 1) (hs : s < 258) (hl : l.length = 258) (hb5 : b ≤ 5) (h : nextN l s b n d bit = some (l', s', b', n', d')) :
    TT.next ⟨ofN l, s, b, n, d⟩ bit = (⟨ofN l', s', b', n', d'⟩, true) ∧ s' < 258 := by
  unfold nextN at h
  unfold TT.next
  simp only
  cases h4 : Nat.blt b 4 with
  | true =>
    rw [h4] at h
    simp only [cond_true, Option.some.injEq, Prod.mk.injEq] at h
    obtain ⟨rfl, rfl, rfl, rfl, rfl⟩ := h
    have := bltT h4
    rw [if_pos (by omega)]
    refine ⟨?_, hs⟩
    congr 2
  | false =>
    rw [h4] at h
    simp only [cond_false] at h
    have h4' := bltF h4
    rw [if_neg (by omega)]
    cases h44 : Nat.beq b 4 with
    | true =>
      rw [h44] at h
      simp only [cond_true] at h
      have := Nat.eq_of_beq_eq_true h44
      subst this
      rw [if_pos (by rfl)]
      cases hbit : Nat.beq bit 0 with
      | true =>
        rw [hbit] at h
        simp only [cond_true] at h
        have := Nat.eq_of_beq_eq_true hbit
        subst this
        rw [if_pos (by rfl)]
        cases hs1 : Nat.blt (Nat.add s 1) 258 with
        | false => rw [hs1] at h; cases h
        | true =>
          rw [hs1] at h
          simp only [cond_true] at h
          have hs2 : s + 1 < 258 := bltT hs1
          split at h
          · rename_i m hm
            simp only [Option.some.injEq, Prod.mk.injEq] at h
            obtain ⟨rfl, rfl, rfl, rfl, rfl⟩ := h
            obtain ⟨q1, q2⟩ := llay_some _ _ _ _ hm
            have hset : (ofN l).set s n = ofN m := by
              rw [q1, List.set_eq_take_append_cons_drop, if_pos (by rw [ofN, List.length_map]; omega)]
              simp [ofN, List.map_take, List.map_drop]
            have e1 : ((s : Nat) : Int).toNat = s := by omega
            rw [e1, hset]
            have e2 : decide ((s : Int) + 1 < 258) = true := decide_eq_true (by omega)
            rw [e2]
            exact ⟨rfl, hs2⟩
          · cases h
      | false =>
        rw [hbit] at h
        simp only [cond_false, Option.some.injEq, Prod.mk.injEq] at h
        obtain ⟨rfl, rfl, rfl, rfl, rfl⟩ := h
        have := beqF hbit
        rw [if_neg (by omega)]
        exact ⟨rfl, hs⟩
    | false =>
      rw [h44] at h
      simp only [cond_false] at h
      have h44' := beqF h44
      rw [if_neg (by omega)]
      cases hbit : Nat.beq bit 0 with
      | true =>
        rw [hbit] at h
        simp only [cond_true] at h
        have := Nat.eq_of_beq_eq_true hbit
        subst this
        rw [if_pos (by rfl)]
        cases hc : (not (Nat.beq d 2) && Nat.blt n 15) with
        | false => rw [hc] at h; cases h
        | true =>
          rw [hc] at h
          simp only [cond_true, Option.some.injEq, Prod.mk.injEq] at h
          obtain ⟨rfl, rfl, rfl, rfl, rfl⟩ := h
          simp only [Bool.and_eq_true, Bool.not_eq_true'] at hc
          have q1 := beqF hc.1
          have q2 := bltT hc.2
          have e2 : decide ((d : Int) ≠ 2 ∧ (n : Int) < 15) = true := decide_eq_true (by omega)
          rw [e2]
          exact ⟨rfl, hs⟩
      | false =>
        rw [hbit] at h
        simp only [cond_false] at h
        have := beqF hbit
        rw [if_neg (by omega)]
        cases hc : (not (Nat.beq d 1) && Nat.blt 0 n) with
        | false => rw [hc] at h; cases h
        | true =>
          rw [hc] at h
          simp only [cond_true, Option.some.injEq, Prod.mk.injEq] at h
          obtain ⟨rfl, rfl, rfl, rfl, rfl⟩ := h
          simp only [Bool.and_eq_true, Bool.not_eq_true'] at hc
          have q1 := beqF hc.1
          have q2 := bltT hc.2
          have e2 : decide ((d : Int) ≠ 1 ∧ 0 < (n : Int)) = true := decide_eq_true (by omega)
          rw [e2]
          refine ⟨?_, hs⟩
          congr 2
          show (n : Int) - 1 = ((n - 1 : Nat) : Int)
          omega
theorem rowT_v (l : List Nat) (s b n d : Nat) : (rowT l s b n d).toArray = TT.v ⟨ofN l, s, b, n, d⟩ := by
  simp only [rowT, TT.v, TS, vs, ofN, List.map_map]
  rfl
theorem sum126_ok {args : List Value} {h : AH} {v : Value} {h' : AH} (hx : sum126 args h = some (some (v, h'))) {w0 : Base} {e : En} {w : World} {args' : List Value} (hv : VRs e args args') (hr : HX e h w0 w) :
    Calls Tryz.prog 126 args'.toArray w fun x w' => ∃ u e', x = .returned u ∧ e.le e' ∧ VR e' v u ∧ HX e' h' w0 w' := by
  unfold sum126 at hx
  split at hx
  · rename_i cs bit
    split at hx
    · rename_i ls s b n d hls hrest
      split at hx
      · rename_i l hl
        rw [u8sQ_eq] at hl
        cases hc : (lenIs 262 cs.toList && (Nat.ble bit 1 && okN l s b n d)) with
        | false => rw [hc] at hx; cases hx
        | true =>
          rw [hc] at hx
          simp only [cond_true] at hx
          simp only [Bool.and_eq_true] at hc
          obtain ⟨c1, c2, c3⟩ := hc
          have c1 := lenIs_some _ _ c1
          have c2 := Nat.le_of_ble_eq_true c2
          have hok := okN_ok c3
          split at hx
          · rename_i l' s' b' n' d' hn
            cases hx
            obtain ⟨e1, e2⟩ := ltk_some _ _ _ hls
            obtain ⟨e3, e4⟩ := lseg_some _ _ _ _ hrest
            obtain ⟨q1, q2⟩ := u8sOf_some (e := e) hl (VRs.self (by
              rw [e1, List.all_eq_true]
              intro y hy
              have hm : ls.all flat1 = true := by
                have : ∀ {l : List Value} {m : List Nat}, u8sOf l = some m → l.all flat1 = true := by
                  intro l
                  induction l with
                  | nil => intro m _; rfl
                  | cons y l ih =>
                    intro m hm
                    unfold u8sOf at hm
                    split at hm
                    · rename_i k
                      cases hb : Nat.ble k 255 with
                      | false => rw [hb] at hm; cases hm
                      | true =>
                        rw [hb] at hm
                        simp only [cond_true] at hm
                        split at hm
                        · rename_i m' hm'
                          rw [List.all_cons, ih hm']; rfl
                        · cases hm
                    · cases hm
                exact this hl
              rw [← e1] at hy
              exact List.all_eq_true.1 hm y hy))
            have hcs : cs.toList = rowT l s b n d := by
              have h1 : cs.toList = cs.toList.take 258 ++ cs.toList.drop 258 := (List.take_append_drop _ _).symm
              have h2 : cs.toList.drop 258 = (cs.toList.drop 258).take 4 := by rw [List.take_of_length_le]; rw [List.length_drop]; omega
              rw [h1, h2, ← e1, ← e3, q1]
              rfl
            have hcsa : cs = TT.v ⟨ofN l, s, b, n, d⟩ := by rw [← rowT_v, ← hcs]
            have hflat : (rowT l s b n d).all flat1 = true := by
              rw [List.all_eq_true]
              intro y hy
              unfold rowT at hy
              simp only [List.mem_append, List.mem_map, List.mem_cons, List.not_mem_nil, or_false] at hy
              rcases hy with ⟨k, _, rfl⟩ | rfl | rfl | rfl | rfl <;> rfl
            cases hv with
            | cons hv1 hv2 =>
            cases hv2 with
            | cons hv2 hv3 =>
            cases hv3
            cases hv2
            rw [hcsa, ← rowT_v] at hv1
            rw [flats_agg hflat hv1, rowT_v]
            obtain ⟨n1, n2⟩ := nextN_eq c2 (by have := hok.sym; simp only at this; omega) (by have := hok.len; rw [ofN, List.length_map] at this; exact this) (by have := hok.bit; simp only at this; omega) hn
            have hc := ltstep_any _ (bit : Int) hok (by omega) (by omega) w
            rw [n1] at hc
            simp only [if_true] at hc
            refine told_call hc ?_ hr
            have hs : ((s' : Int) == 258) = false := by
              rw [beq_eq_false_iff_ne]
              omega
            rw [hs, ← rowT_v]
            refine .tuple (a' := [.agg (rowT l' s' b' n' d').toArray, .bool false, .int .i64 0]) (.cons (flats_self ?_) (.cons (.bool _) (.cons (.int _ _) .nil)))
            rw [List.all_eq_true]
            intro y hy
            unfold rowT at hy
            simp only [List.mem_append, List.mem_map, List.mem_cons, List.not_mem_nil, or_false] at hy
            rcases hy with ⟨k, _, rfl⟩ | rfl | rfl | rfl | rfl <;> rfl
          · cases hx
      · cases hx
    · cases hx
  · cases hx
noncomputable def sumA : ASum := fun _ f args h => match Nat.beq f 126, Nat.beq f 258, Nat.beq f 251 with
  | true, _, _ => sum126 args h
  | _, true, _ => sum258 args h
  | _, _, true => sum251 args h
  | _, _, _ => sumW f args h
theorem sumA_ok : SumOk Tryz.prog sumA := by
  intro D hD f args h v h' hx w0 e w args' hv hr
  unfold sumA at hx
  split at hx
  · rename_i h1
    obtain rfl := Nat.eq_of_beq_eq_true h1
    exact sum126_ok hx hv hr
  · rename_i h1 _
    obtain rfl := Nat.eq_of_beq_eq_true h1
    exact sum258_ok hx hv hr
  · rename_i h1 _ _
    obtain rfl := Nat.eq_of_beq_eq_true h1
    exact sum251_ok hx hv hr
  · exact sumW_ok hx hv hr
end Go.Proofs.YtkpbhdhkdonghaaGreat
