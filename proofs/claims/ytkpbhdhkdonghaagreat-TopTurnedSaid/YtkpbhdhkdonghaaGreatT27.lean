/-
  Part 27 of the proof.
-/
import Derived.Laws.StructEq
import Derived.ChangeKeysEq
import Derived.MapKept
import Derived.ChangeMaps
import Derived.Maps.Keyed
import Derived.Test.YtkpbhdhkdonghaaGreatT26
set_option linter.all false
namespace Go.Proofs.YtkpbhdhkdonghaaGreat
open Go Go.RowKit
section
variable {P : Program} {ev : Ev} {e : En} {h : AH} {w0 : Base} {w : World} {a : Act} {o : Oper}
theorem asPure_run {α : Type} : ∀ (s : Sem α) (x : α), asPure P s = some x → ∀ w, s.run P w = .ok x w
  | .pure _, x, h, w => by cases h; rfl
  | .program k, x, h, w => asPure_run (k P) x h w
  | .load .., x, h, w => by cases h
  | .store .., x, h, w => by cases h
  | .new .., x, h, w => by cases h
  | .shape .., x, h, w => by cases h
  | .freeze .., x, h, w => by cases h
  | .frozen .., x, h, w => by cases h
  | .getObj .., x, h, w => by cases h
  | .setObj .., x, h, w => by cases h
  | .choose .., x, h, w => by cases h
  | .sys .., x, h, w => by cases h
  | .mark .., x, h, w => by cases h
  | .halt .., x, h, w => by cases h
theorem fval_eq (v : Value) : fval v = some v := by
  unfold fval
  split
  · rename_i q z
    unfold fint
    split <;> rfl
  · rfl
theorem pureV_run {x : Sem Value} {v : Value} (hx : pureV P x = some v) : (∀ w, x.run P w = .ok v w) ∧ ∀ e, VR e v v := by
  unfold pureV at hx
  split at hx
  · rename_i v2 hv
    cases hf : flat1 v2 with
    | false => rw [hf] at hx; cases hx
    | true =>
      rw [hf, cond_true, fval_eq] at hx
      cases hx
      exact ⟨asPure_run _ _ hv, fun e => flat1_vr hf⟩
  · cases hx
theorem kIdx_inj {k l : IntKind} (h : Nat.beq (kIdx k) (kIdx l) = true) : k = l := by
  cases k <;> cases l <;> first | rfl | cases h
theorem wrap_lim {k : IntKind} {n : Nat} (h : n ≤ limK k) : k.wrap (n : Int) = n := by
  cases k
  all_goals
    simp only [limK] at h
    simp only [IntKind.wrap, IntKind.bits, IntKind.signed, Bool.true_and, Bool.false_and, decide_eq_true_eq, Bool.false_eq_true, if_false, Nat.reduceSub, ge_iff_le]
    try split
    all_goals omega
theorem oInt_some {k : IntKind} {n : Nat} {v : Value} (h : oInt k n = some v) : v = .int k n ∧ k.wrap (n : Int) = n := by
  unfold oInt at h
  rw [fnat_eq] at h
  cases hb : Nat.ble n (limK k) with
  | false => rw [hb] at h; cases h
  | true => rw [hb] at h; cases h; exact ⟨rfl, wrap_lim (Nat.le_of_ble_eq_true hb)⟩
theorem beq_dec (m n : Nat) : Nat.beq m n = ((m : Int) == (n : Int)) := by
  cases hb : Nat.beq m n
  · have : m ≠ n := fun e => by subst e; rw [Nat.beq_refl] at hb; cases hb
    exact (beq_eq_false_iff_ne.2 (fun e => this (by omega))).symm
  · have := Nat.eq_of_beq_eq_true hb
    subst this
    simp
theorem ble_dec (m n : Nat) : Nat.ble m n = decide ((m : Int) ≤ (n : Int)) := by
  cases hb : Nat.ble m n
  · have : ¬ m ≤ n := fun e => by rw [Nat.ble_eq_true_of_le e] at hb; cases hb
    symm
    simp
    omega
  · have := Nat.le_of_ble_eq_true hb
    symm
    simp
    omega
theorem blt_dec (m n : Nat) : Nat.blt m n = decide ((m : Int) < (n : Int)) := by
  unfold Nat.blt
  rw [ble_dec]
  congr 1
theorem oNats_run {op : BinOp} {t : TypeId} {k : IntKind} {m n : Nat} {v : Value} (h : oNats op k m n = some v) (w : World) : (binOp op t (.int k m) (.int k n)).run P w = .ok v w ∧ ∀ e, VR e v v := by
  unfold oNats at h
  split at h
  · obtain ⟨rfl, hw⟩ := oInt_some h
    refine ⟨?_, fun e => .int _ _⟩
    have hw' : k.wrap ((m : Int) + n) = ((Nat.add m n : Nat) : Int) := by rw [← hw]; rfl
    simp [binOp, Op.intArith, hw']
  · cases hb : Nat.ble n m with
    | false => rw [hb] at h; cases h
    | true =>
      rw [hb] at h
      obtain ⟨rfl, hw⟩ := oInt_some h
      refine ⟨?_, fun e => .int _ _⟩
      have hle := Nat.le_of_ble_eq_true hb
      have hw' : k.wrap ((m : Int) - n) = ((Nat.sub m n : Nat) : Int) := by
        rw [← hw]
        congr 1
        show (m : Int) - n = ((m - n : Nat) : Int)
        omega
      simp [binOp, Op.intArith, hw']
  · obtain ⟨rfl, hw⟩ := oInt_some h
    refine ⟨?_, fun e => .int _ _⟩
    have hw' : k.wrap ((m : Int) * n) = ((Nat.mul m n : Nat) : Int) := by rw [← hw]; rfl
    simp [binOp, Op.intArith, hw']
  · cases h; exact ⟨by simp [binOp, Op.intCmp, beq_dec], fun e => .bool _⟩
  · cases h; exact ⟨by simp [binOp, Op.intCmp, beq_dec, bne], fun e => .bool _⟩
  · cases h; exact ⟨by simp [binOp, Op.intCmp, blt_dec], fun e => .bool _⟩
  · cases h; exact ⟨by simp [binOp, Op.intCmp, ble_dec], fun e => .bool _⟩
  · cases h; exact ⟨by simp [binOp, Op.intCmp, blt_dec], fun e => .bool _⟩
  · cases h; exact ⟨by simp [binOp, Op.intCmp, ble_dec], fun e => .bool _⟩
  · cases h
theorem oInts_run {op : BinOp} {t : TypeId} {k l : IntKind} {x y : Int} {v : Value} (h : oInts P op t k l x y = some v) (w : World) : (binOp op t (.int k x) (.int l y)).run P w = .ok v w ∧ ∀ e, VR e v v := by
  have slow : ∀ {x y : Int}, oIntsSlow P op t k l x y = some v → (binOp op t (.int k x) (.int l y)).run P w = .ok v w ∧ ∀ e, VR e v v := fun hx => ⟨(pureV_run hx).1 w, (pureV_run hx).2⟩
  unfold oInts at h
  split at h
  · rename_i m
    split at h
    · rename_i n
      cases hb : Nat.beq (kIdx k) (kIdx l) with
      | false => rw [hb] at h; exact slow h
      | true =>
        rw [hb] at h
        have := kIdx_inj hb
        subst this
        simp only [cond_true] at h
        unfold oOr at h
        split at h
        · rename_i v2 hv
          cases h
          exact oNats_run hv w
        · exact slow h
    · exact slow h
  · exact slow h
theorem s_binrun {op : BinOp} {t yt : TypeId} {x y : Operand} {v : Value} (ho : o.op = .binOp op t x y yt) (hg : (eqGuard op t x y (a.eval x) (a.eval y)).run P w = .ok () w) (hb : (binOp op t (a.eval x) (a.eval y)).run P w = .ok v w) : (execOp a.eval o).run P w = .ok (.value v) w := by
  unfold execOp
  simp only [ho, Sem.run_bind, hg, hb, Result.andThen_ok, Sem.run_pure]
theorem guard_int {op : BinOp} {t : TypeId} {x y : Operand} {k l : IntKind} {m n : Int} : (eqGuard op t x y (.int k m) (.int l n)).run P w = .ok () w := by
  unfold eqGuard
  cases op <;> rfl
theorem guard_bool {op : BinOp} {t : TypeId} {x y : Operand} {m n : Bool} : (eqGuard op t x y (.bool m) (.bool n)).run P w = .ok () w := by
  unfold eqGuard
  cases op <;> rfl
theorem guard_string {op : BinOp} {t : TypeId} {x y : Operand} {m n : ByteArray} : (eqGuard op t x y (.string m) (.string n)).run P w = .ok () w := by
  unfold eqGuard
  cases op <;> rfl
theorem equal_step {t : TypeId} {u v : Value} : (Op.equal t u v).run P w = (Op.equalIn (9999 + 1) t u v).run P w := rfl
theorem nilEq_run {t : TypeId} {x y : Operand} {u v u' v' : Value} {b : Bool} {op : BinOp} (h : nilEq P t (isK x || isK y) u v = some b) (hu : VR e u u') (hv : VR e v v') :
    (Op.equal t u' v').run P w = .ok b w ∧ (eqGuard op t x y u' v').run P w = .ok () w ∧ (op = .eql → binOp op t u' v' = (do pure (.bool (← Op.equal t u' v')))) ∧ (op = .neq → binOp op t u' v' = (do pure (.bool (!(← Op.equal t u' v'))))) := by
  have hkc : ∀ {b : Bool}, cond (isK x || isK y) (some true) none = some b → b = true ∧ ((x matches .const _) || (y matches .const _)) = true := by
    intro b hb
    unfold isK at hb
    cases x <;> cases y <;> first | (cases hb; exact ⟨rfl, rfl⟩) | cases hb
  unfold nilEq at h
  split at h
  · rename_i et hut
    split at h
    all_goals first | (cases h; done) | skip
    all_goals (cases h; cases hu; cases hv; refine ⟨?_, ?_, ?_, ?_⟩)
    all_goals first
      | (rw [equal_step]; unfold Op.equalIn; simp [run_underlying hut]; done)
      | (unfold eqGuard; cases op <;> rfl)
      | (intro h2; subst h2; rfl)
  · rename_i et hut
    split at h
    all_goals first | (cases h; done) | skip
    all_goals (cases h; cases hu <;> cases hv <;> refine ⟨?_, ?_, ?_, ?_⟩)
    all_goals first
      | (rw [equal_step]; unfold Op.equalIn; simp [run_underlying hut]; done)
      | (unfold eqGuard; cases op <;> rfl)
      | (intro h2; subst h2; rfl)
  · rename_i et hut
    split at h
    · obtain ⟨rfl, hk⟩ := hkc h
      cases hu; cases hv
      refine ⟨?_, ?_, ?_, ?_⟩
      · rw [equal_step]; unfold Op.equalIn; simp [run_underlying hut]
      · unfold eqGuard
        cases op <;> cases x <;> cases y <;> first | rfl | cases hk
      · intro h2; subst h2; rfl
      · intro h2; subst h2; rfl
    · cases h; cases hu; cases hv
      refine ⟨?_, ?_, ?_, ?_⟩
      · rw [equal_step]; unfold Op.equalIn; simp [run_underlying hut]
      · unfold eqGuard; cases op <;> rfl
      · intro h2; subst h2; rfl
      · intro h2; subst h2; rfl
    · cases h; cases hu; cases hv
      refine ⟨?_, ?_, ?_, ?_⟩
      · rw [equal_step]; unfold Op.equalIn; simp [run_underlying hut]
      · unfold eqGuard; cases op <;> rfl
      · intro h2; subst h2; rfl
      · intro h2; subst h2; rfl
    · cases h
  · rename_i hut
    split at h
    all_goals first | (cases h; done) | skip
    all_goals (cases h; cases hu; cases hv; refine ⟨?_, ?_, ?_, ?_⟩)
    all_goals first
      | (rw [equal_step]; unfold Op.equalIn; simp [run_underlying hut]; done)
      | (unfold eqGuard; cases op <;> rfl)
      | (intro h2; subst h2; rfl)
  · cases h
theorem beqs_list : ∀ (a b : List UInt8), beqs a b = (a == b)
  | [], [] => rfl
  | [], _ :: _ => rfl
  | _ :: _, [] => rfl
  | a :: l, b :: m => by
    unfold beqs
    rw [beqs_list l m]
    show _ = (a == b && l == m)
    congr 1
    cases hb : Nat.beq a.toNat b.toNat
    · have : a ≠ b := fun e => by subst e; rw [Nat.beq_refl] at hb; cases hb
      symm
      simpa using this
    · have := Nat.eq_of_beq_eq_true hb
      have : a = b := UInt8.toNat_inj.1 this
      subst this
      simp
theorem beqs_eq (a b : ByteArray) : (a.toList == b.toList) = beqs a.data.toList b.data.toList := by
  rw [beqs_list, ByteArray.toList_eq, ByteArray.toList_eq]
theorem cmpB_some {x y : Option Bool} {b : Bool} (h : cmpB x y = some b) : (x = some false ∧ b = false) ∨ (x = some true ∧ y = some b) := by
  cases x with
  | none => cases h
  | some c =>
    cases c with
    | false => cases h; exact .inl ⟨rfl, rfl⟩
    | true => exact .inr ⟨rfl, h⟩
theorem cmpInt_some {a b : Value} {r : Bool} (h : cmpInt a b = some r) : ∃ k x y, a = .int k x ∧ b = .int k y ∧ r = (x == y) := by
  unfold cmpInt at h
  split at h
  · rename_i k x l y
    cases hb : Nat.beq (kIdx k) (kIdx l) with
    | false => rw [hb] at h; cases h
    | true =>
      rw [hb] at h
      cases h
      exact ⟨k, x, y, rfl, by rw [kIdx_inj hb], rfl⟩
  · cases h
def CmpOk (P : Program) (C : Cmp) (d : Nat) : Prop := ∀ (e : En) (t : TypeId) (u v u' v' : Value) (b : Bool) (k : Nat) (w : World), C t u v = some b → VR e u u' → VR e v v' → (Op.equalIn (k + d) t u' v').run P w = .ok b w
theorem cmpO_run {C : Cmp} {d k : Nat} (hC : CmpOk P C d) {t : TypeId} {cs ds cs' ds' : List Value} {off : Nat} {b : Bool} (h : cmpO C t (apart P t cs off) (apart P t ds off) = some b) (h1 : VRs e cs cs') (h2 : VRs e ds ds') (w : World) :
    ∃ u v, (part t cs'.toArray off).run P w = .ok u w ∧ (part t ds'.toArray off).run P w = .ok v w ∧ (Op.equalIn (k + d) t u v).run P w = .ok b w := by
  unfold cmpO at h
  split at h
  · rename_i a1 a2 e1 e2
    obtain ⟨u, u1, u2⟩ := apart_part e1 h1 w
    obtain ⟨v, v1, v2⟩ := apart_part e2 h2 w
    exact ⟨u, v, u1, v1, hC _ _ _ _ _ _ _ k w h u2 v2⟩
  · cases h
theorem cmpItems_run {C : Cmp} {d k : Nat} (hC : CmpOk P C d) {t : TypeId} {s : Nat} {cs ds cs' ds' : List Value} (h1 : VRs e cs cs') (h2 : VRs e ds ds') (w : World) : ∀ (n i : Nat) {b : Bool}, cmpItems P C t s cs ds n i = some b → (Op.eqItems (k + d) t s cs'.toArray ds'.toArray (List.range' i n)).run P w = .ok b w
  | 0, i, b, h => by cases h; simp [Op.eqItems]
  | n + 1, i, b, h => by
    unfold cmpItems at h
    rw [List.range'_succ]
    rcases cmpB_some h with ⟨h3, rfl⟩ | ⟨h3, h4⟩
    · obtain ⟨u, v, p1, p2, p3⟩ := cmpO_run (k := k) hC h3 h1 h2 w
      simp only [Op.eqItems, Sem.run_bind, show (part t cs'.toArray (i * s)).run P w = .ok u w from p1, show (part t ds'.toArray (i * s)).run P w = .ok v w from p2, p3, Result.andThen_ok]
      rfl
    · obtain ⟨u, v, p1, p2, p3⟩ := cmpO_run (k := k) hC h3 h1 h2 w
      simp only [Op.eqItems, Sem.run_bind, show (part t cs'.toArray (i * s)).run P w = .ok u w from p1, show (part t ds'.toArray (i * s)).run P w = .ok v w from p2, p3, Result.andThen_ok]
      exact cmpItems_run hC h1 h2 w n (i + 1) h4
theorem cmpFields_run {C : Cmp} {d k : Nat} (hC : CmpOk P C d) {cs ds cs' ds' : List Value} (h1 : VRs e cs cs') (h2 : VRs e ds ds') (w : World) : ∀ (fs : List Field) {b : Bool}, cmpFields P C cs ds fs = some b → (Op.eqFields (k + d) cs'.toArray ds'.toArray fs).run P w = .ok b w
  | [], b, h => by cases h; simp [Op.eqFields]
  | f :: fs, b, h => by
    unfold cmpFields at h
    cases hn : (f.name == "_") with
    | true => rw [hn] at h; cases h
    | false =>
      rw [hn] at h
      have hn : f.name ≠ "_" := by simpa using hn
      simp only [cond_false] at h
      rcases cmpB_some h with ⟨h3, rfl⟩ | ⟨h3, h4⟩
      · obtain ⟨u, v, p1, p2, p3⟩ := cmpO_run (k := k) hC h3 h1 h2 w
        simp only [Op.eqFields, hn, ne_eq, not_false_eq_true, if_true, Sem.run_bind, p1, p2, p3, Result.andThen_ok]
        rfl
      · obtain ⟨u, v, p1, p2, p3⟩ := cmpO_run (k := k) hC h3 h1 h2 w
        simp only [Op.eqFields, hn, ne_eq, not_false_eq_true, if_true, Sem.run_bind, p1, p2, p3, Result.andThen_ok]
        exact cmpFields_run hC h1 h2 w fs h4
theorem isIntU_some {t : TypeId} (h : isIntU P t = true) : ∃ k, P.underlying t = some (.int k) := by
  unfold isIntU at h
  split at h
  · rename_i k hk; exact ⟨k, hk⟩
  · cases h
theorem cmpInts_nil (m : List Value) : cmpInts [] m = match m with | [] => some true | _ :: _ => none := by cases m <;> rfl
theorem cmpInts_cons (a : Value) (l m : List Value) : cmpInts (a :: l) m = match m with | [] => none | b :: m => cmpB (cmpInt a b) (cmpInts l m) := by cases m <;> rfl
theorem cmpInts_run {t : TypeId} {kd : IntKind} (hu : P.underlying t = some (.int kd)) {cs' ds' : List Value} (d : Nat) (w : World) : ∀ (cs ds : List Value) (i : Nat) {b : Bool}, cmpInts cs ds = some b → VRs e cs (cs'.drop i) → VRs e ds (ds'.drop i) → (Op.eqItems (d + 1) t 1 cs'.toArray ds'.toArray (List.range' i cs.length)).run P w = .ok b w
  | [], ds, i, b, h, _, _ => by
    rw [cmpInts_nil] at h
    split at h
    · cases h; simp [Op.eqItems]
    · cases h
  | a :: cs, ds, i, b, h, h1, h2 => by
    rw [cmpInts_cons] at h
    split at h
    · cases h
    · rename_i c ds
      have ha : aggQ P t = some false := by unfold aggQ; rw [hu]
      have cell : ∀ {l l' : List Value} {x : Value}, VRs e (x :: l) (l'.drop i) → ∃ y, VR e x y ∧ VRs e l (l'.drop (i + 1)) ∧ (part t l'.toArray (i * 1)).run P w = .ok y w := by
        intro l l' x hv
        generalize hq : l'.drop i = q at hv
        cases hv
        rename_i y l2 hy hl2
        refine ⟨y, hy, ?_, ?_⟩
        · have : l'.drop (i + 1) = l2 := by rw [← List.drop_drop, hq]; rfl
          rw [this]; exact hl2
        · have hy2 : l'[i]? = some y := by
            have h5 : (l'.drop i)[0]? = l'[i]? := by rw [List.getElem?_drop, Nat.add_zero]
            rw [← h5, hq]; rfl
          simp [part, isAgg, hy2, run_underlying hu]
      obtain ⟨x, x1, x2, x3⟩ := cell h1
      obtain ⟨y, y1, y2, y3⟩ := cell h2
      rw [List.length_cons, List.range'_succ]
      have heq : ∀ {r : Bool}, cmpInt a c = some r → (Op.equalIn (d + 1) t x y).run P w = .ok r w := by
        intro r hr
        obtain ⟨k, m, n, rfl, rfl, rfl⟩ := cmpInt_some hr
        cases x1
        cases y1
        exact run_equalIn_int w d t k kd m n hu
      rcases cmpB_some h with ⟨h3, rfl⟩ | ⟨h3, h4⟩
      · simp only [Op.eqItems, Sem.run_bind, x3, y3, heq h3, Result.andThen_ok]
        rfl
      · simp only [Op.eqItems, Sem.run_bind, x3, y3, heq h3, Result.andThen_ok]
        exact cmpInts_run hu d w cs ds (i + 1) h4 x2 y2
theorem cmpT_ok : ∀ d, CmpOk P (cmpT P d) (d + 1)
  | 0 => fun _ _ _ _ _ _ _ _ _ h => by cases h
  | d + 1 => fun e t u v u' v' b k w h h1 h2 => by
    unfold cmpT at h
    split at h
    · rename_i hu
      split at h
      · cases h; cases h1; cases h2
        exact run_equalIn_bool' w (k + (d + 1)) t _ _ hu
      · cases h
    · rename_i kd hu
      obtain ⟨kq, m, n, rfl, rfl, rfl⟩ := cmpInt_some h
      cases h1; cases h2
      exact run_equalIn_int w (k + (d + 1)) t kq kd m n hu
    · rename_i n et hu
      split at h
      · rename_i cs ds
        generalize hcs : Value.agg cs = x1 at h1
        generalize hds : Value.agg ds = x2 at h2
        cases h1 <;> cases hcs
        cases h2 <;> cases hds
        rename_i c1 c1' hc d1 d1' hd
        unfold cmpArr at h
        split at h
        · rename_i s hs
          obtain ⟨i, i1, i2⟩ := sizeT_some hs
          have hcell : P.cellsOf et = s := by simp [Program.cellsOf, i1, i2]
          have hrun := run_equalIn_array (w := w) (k + (d + 1)) (t := t) c1'.toArray d1'.toArray hu i1
          rw [hcell] at hrun
          rw [show k + (d + 1 + 1) = k + (d + 1) + 1 from rfl, hrun, List.range_eq_range']
          cases hb : (isIntU P et && Nat.beq s 1) with
          | true =>
            rw [hb] at h
            rw [Bool.and_eq_true] at hb
            obtain ⟨kd, hk⟩ := isIntU_some hb.1
            have hs1 := Nat.eq_of_beq_eq_true hb.2
            subst hs1
            simp only [cond_true] at h
            cases hn : Nat.beq c1.length n with
            | false => rw [hn] at h; cases h
            | true =>
              rw [hn] at h
              have hn := Nat.eq_of_beq_eq_true hn
              subst hn
              exact cmpInts_run (e := e) hk (k + d) w c1 d1 0 h (by simpa using hc) (by simpa using hd)
          | false =>
            rw [hb] at h
            exact cmpItems_run (cmpT_ok d) hc hd w n 0 h
        · cases h
      · cases h
    · rename_i fs hu
      split at h
      · rename_i cs ds
        generalize hcs : Value.agg cs = x1 at h1
        generalize hds : Value.agg ds = x2 at h2
        cases h1 <;> cases hcs
        cases h2 <;> cases hds
        rename_i c1 c1' hc d1 d1' hd
        cases hst : P.stoodInHeld t with
        | true => rw [hst] at h; cases h
        | false =>
          rw [hst] at h
          simp only [cond_false] at h
          have hfs : P.fieldsOf t = fs := by simp [Program.fieldsOf, hu]
          rw [show k + (d + 1 + 1) = k + (d + 1) + 1 from rfl, run_equalIn_struct w (k + (d + 1)) t _ _ (by rw [hfs]; exact hu) hst, hfs]
          exact cmpFields_run (cmpT_ok d) hc hd w fs.toList h
      · cases h
    · cases h
theorem s_bin {op : BinOp} {t yt : TypeId} {x y : Operand} {v : Value} (ho : o.op = .binOp op t x y yt) (hev : EvR e ev a) (hx : oBin P op t (isK x || isK y) (ev x) (ev y) = some v) : RsV P a o w e v := by
  unfold oBin at hx
  split at hx
  · rename_i u hu
    split at hx
    · rename_i y2 hy
      have h1 := hev _ _ hu
      have h2 := hev _ _ hy
      unfold oBinV at hx
      split at hx
      · rename_i k m
        unfold oBinI at hx
        split at hx
        · rename_i l n
          generalize hq : a.eval x = q at h1
          generalize hr : a.eval y = r at h2
          cases h1; cases h2
          obtain ⟨h3, h4⟩ := oInts_run hx w
          exact ⟨v, s_binrun ho (by rw [hq, hr]; exact guard_int) (by rw [hq, hr]; exact h3), h4 e⟩
        · cases hx
      · rename_i m
        unfold oBinB at hx
        split at hx
        · rename_i n
          generalize hq : a.eval x = q at h1
          generalize hr : a.eval y = r at h2
          cases h1; cases h2
          unfold oBools at hx
          cases hb : isBoolT P t with
          | false => rw [hb] at hx; cases hx
          | true =>
            rw [hb] at hx
            have hut : P.underlying t = some .bool := by
              unfold isBoolT at hb
              split at hb
              · assumption
              · cases hb
            have heq : (Op.equal t (.bool m) (.bool n)).run P w = .ok (m == n) w := by rw [equal_step]; unfold Op.equalIn; simp [run_underlying hut]
            simp only [cond_true] at hx
            split at hx
            · cases hx
              exact ⟨_, s_binrun ho (by rw [hq, hr]; exact guard_bool) (by rw [hq, hr]; simp [binOp, heq]), .bool _⟩
            · cases hx
              exact ⟨_, s_binrun ho (by rw [hq, hr]; exact guard_bool) (by rw [hq, hr]; simp [binOp, heq]), .bool _⟩
            · cases hx
        · cases hx
      · rename_i m
        unfold oBinS at hx
        split at hx
        · rename_i n
          generalize hq : a.eval x = q at h1
          generalize hr : a.eval y = r at h2
          cases h1; cases h2
          have hb := beqs_eq m n
          split at hx
          · cases hx
            exact ⟨_, s_binrun ho (by rw [hq, hr]; exact guard_string) (by rw [hq, hr, ← hb]; simp [binOp, Op.stringOp]), .bool _⟩
          · cases hx
            exact ⟨_, s_binrun ho (by rw [hq, hr]; exact guard_string) (by rw [hq, hr, ← hb]; simp [binOp, Op.stringOp]), .bool _⟩
          · cases hx
        · cases hx
      · rename_i cs
        unfold oAggs at hx
        split at hx
        · rename_i ds
          cases hg : P.eqGuardType P.depth t with
          | true => rw [hg] at hx; cases hx
          | false =>
            rw [hg] at hx
            simp only [cond_false] at hx
            split at hx
            · rename_i b hb
              have heq : (Op.equal t (a.eval x) (a.eval y)).run P w = .ok b w := cmpT_ok 6 e _ _ _ _ _ _ 9993 w hb h1 h2
              generalize hq : a.eval x = q at h1 heq
              generalize hr : a.eval y = r at h2 heq
              cases h1; cases h2
              have hgd := run_eqGuard_agg (P := P) w op t x y
              split at hx
              · cases hx
                exact ⟨_, s_binrun ho (by rw [hq, hr]; exact hgd _ _ hg) (by rw [hq, hr]; simp only [binOp, Sem.run_bind, heq, Result.andThen_ok]; rfl), .bool _⟩
              · cases hx
                exact ⟨_, s_binrun ho (by rw [hq, hr]; exact hgd _ _ hg) (by rw [hq, hr]; simp only [binOp, Sem.run_bind, heq, Result.andThen_ok]; rfl), .bool _⟩
              · cases hx
            · cases hx
        · cases hx
      · unfold oNils at hx
        split at hx
        · rename_i b hb
          obtain ⟨h3, h4, h5, h6⟩ := nilEq_run (w := w) (op := op) hb h1 h2
          split at hx
          · cases hx
            exact ⟨_, s_binrun ho h4 (by rw [h5 rfl]; simp [h3]), .bool _⟩
          · cases hx
            exact ⟨_, s_binrun ho h4 (by rw [h6 rfl]; simp [h3]), .bool _⟩
          · cases hx
        · cases hx
    · cases hx
  · cases hx
theorem s_un {op : UnOp} {t : TypeId} {x : Operand} {v : Value} (ho : o.op = .unOp op t x) (hev : EvR e ev a) (hx : oUn P op (ev x) = some v) : RsV P a o w e v := by
  unfold oUn at hx
  split at hx
  · rename_i k m hk
    have h1 := hev _ _ hk
    generalize hq : a.eval x = q at h1
    cases h1
    obtain ⟨h3, h4⟩ := pureV_run hx
    refine ⟨v, ?_, h4 e⟩
    unfold execOp
    simp only [ho, hq, Sem.run_bind, h3, Result.andThen_ok, Sem.run_pure]
  · rename_i b hk
    have h1 := hev _ _ hk
    generalize hq : a.eval x = q at h1
    cases h1
    split at hx
    · cases hx
      refine ⟨_, ?_, .bool _⟩
      unfold execOp
      simp [ho, hq, Op.unary]
    · cases hx
  · cases hx
theorem s_convertI {s d : TypeId} {x : Operand} {k : IntKind} {m : Int} {v : Value} (ho : o.op = .convert s d x) (hev : EvR e ev a) (hk : ev x = some (.int k m)) (hx : pureV P (convert s d (.int k m)) = some v) : RsV P a o w e v := by
  have h1 := hev _ _ hk
  generalize hq : a.eval x = q at h1
  cases h1
  obtain ⟨h3, h4⟩ := pureV_run hx
  refine ⟨v, ?_, h4 e⟩
  unfold execOp
  simp only [ho, hq, Sem.run_bind, h3, Result.andThen_ok, Sem.run_pure]
end
end Go.Proofs.YtkpbhdhkdonghaaGreat

namespace Go.Proofs.YtkpbhdhkdonghaaGreat
open Go Go.RowKit
section
variable {P : Program} {ev : Ev} {e : En} {h : AH} {w0 : Base} {w : World} {a : Act} {o : Oper}
def KeyedAll (P : Program) : Prop := (∀ kt, kt ∈ keyTs → Maps.Keyed P kt) ∧ ∀ kt v, kt ∈ keyTs → keyQ kt v = true → (keyOf P kt v).isSome = true
theorem VRs.flat {e : En} : ∀ {a b : List Value}, VRs e a b → a.all flat1 = true → b = a
  | _, _, .nil, _ => rfl
  | _, _, .cons hv ht, h => by
    rw [List.all_cons, Bool.and_eq_true] at h
    rw [VRs.flat ht h.2]
    congr 1
    cases hv <;> first | rfl | cases h.1
theorem flatK_eq {e : En} {v u : Value} (h : flatK v = true) (hv : VR e v u) : u = v := by
  unfold flatK at h
  split at h
  · cases hv; rfl
  · cases hv
    rename_i a b hab
    rw [VRs.flat hab (by simpa using h)]
  · cases h
theorem isI_flat {k : IntKind} {v : Value} (h : isI k v = true) : flat1 v = true ∧ flatK v = true := by
  unfold isI at h
  split at h
  · exact ⟨rfl, rfl⟩
  · exact ⟨rfl, rfl⟩
  · cases h
theorem isIs_flat {k : IntKind} {n : Nat} {v : Value} (h : isIs k n v = true) : flatK v = true := by
  unfold isIs at h
  split at h
  · rename_i cs
    split at h
    · rename_i x hc
      show cs.toList.all flat1 = true
      rw [hc]
      simp [(isI_flat h).1]
    · rename_i x y hc
      show cs.toList.all flat1 = true
      rw [hc]
      cases hx : isI k x with
      | false => rw [hx] at h; cases h
      | true =>
        rw [hx] at h
        simp [(isI_flat hx).1, (isI_flat h).1]
    · cases h
  · cases h
theorem keyQ_flat {kt : Nat} {v : Value} (h : keyQ kt v = true) : flatK v = true := by
  unfold keyQ at h
  cases h1 : Nat.beq kt 134 with
  | true => rw [h1] at h; exact isIs_flat h
  | false =>
    rw [h1] at h
    cases h2 : Nat.beq kt 207 with
    | true => rw [h2] at h; exact isIs_flat h
    | false =>
      rw [h2] at h
      cases h3 : Nat.beq kt 5 with
      | true => rw [h3] at h; exact (isI_flat h).2
      | false =>
        rw [h3] at h
        cases h4 : Nat.beq kt 3 with
        | true => rw [h4] at h; exact (isI_flat h).2
        | false =>
          rw [h4] at h
          cases h5 : Nat.beq kt 241 with
          | true => rw [h5] at h; exact isIs_flat h
          | false => rw [h5] at h; cases h
theorem keyQ_some (hK : KeyedAll P) {kt : TypeId} (hkt : kt ∈ keyTs) {v : Value} (h : keyQ kt v = true) : flatK v = true ∧ ∃ l, keyOf P kt v = some l :=
  ⟨keyQ_flat h, Option.isSome_iff_exists.1 (hK.2 kt v hkt h)⟩
theorem intNe_ne {a b : Value} (h : intNe a b = true) : a ≠ b := by
  unfold intNe at h
  split at h
  · intro e; cases e; simp at h
  · cases h
theorem intsNe_ne : ∀ {a b : List Value}, intsNe a b = true → a ≠ b
  | a :: l, b :: m, h, e => by
    unfold intsNe at h
    cases e
    rw [Bool.or_eq_true] at h
    rcases h with h | h
    · exact intNe_ne h rfl
    · exact intsNe_ne h rfl
  | [], _, h, _ => by cases h
  | _ :: _, [], h, _ => by cases h
theorem keyNe_ne {a b : Value} (h : keyNe a b = true) : a ≠ b := by
  unfold keyNe at h
  split at h
  · intro e; cases e; exact intsNe_ne h rfl
  · exact intNe_ne h
theorem intEq_eq {a b : Value} (h : intEq a b = true) : a = b := by
  unfold intEq at h
  split at h
  · rw [Bool.and_eq_true] at h
    rw [kIdx_inj h.1, of_decide_eq_true h.2]
  · cases h
theorem intsEq_eq : ∀ {a b : List Value}, intsEq a b = true → a = b
  | [], [], _ => rfl
  | a :: l, b :: m, h => by
    unfold intsEq at h
    rw [Bool.and_eq_true] at h
    rw [intEq_eq h.1, intsEq_eq h.2]
  | [], _ :: _, h => by cases h
  | _ :: _, [], h => by cases h
theorem keyEq_eq {a b : Value} (h : keyEq a b = true) : a = b := by
  unfold keyEq at h
  split at h
  · congr 1; exact Array.ext' (intsEq_eq h)
  · exact intEq_eq h
theorem mfind_some {k : Value} : ∀ {es : List (Value × Value)} {v : Value}, mfind k es = some v → ∃ p ∈ es, p.1 = k ∧ p.2 = v
  | [], v, h => by cases h
  | p :: es, v, h => by
    unfold mfind at h
    cases hb : keyEq k p.1 with
    | true => rw [hb] at h; cases h; exact ⟨p, by simp, (keyEq_eq hb).symm, rfl⟩
    | false =>
      rw [hb] at h
      obtain ⟨q, h1, h2⟩ := mfind_some h
      exact ⟨q, by simp [h1], h2⟩
theorem mapT2_some {t kt vt : TypeId} (hm : mapT2 P t = some (kt, vt)) : P.underlying t = some (.map kt vt) ∧ kt ∈ keyTs := by
  unfold mapT2 at hm
  split at hm
  · rename_i k v hu
    cases hc : keyTs.contains k with
    | false => rw [hc] at hm; cases hm
    | true =>
      rw [hc] at hm
      cases hm
      exact ⟨hu, by simpa using hc⟩
  · cases hm
theorem s_map {t : TypeId} {r : AOut} (ho : o.op = .makeMap t none) (hr : HX e h w0 w) (hx : oMap h = some r) : Rs P a o w0 w e h r := by
  unfold oMap at hx
  split at hx
  · rename_i k h' hnew
    cases hx
    obtain ⟨rfl, h1, h2⟩ := hr.add hnew (growAlloc w (.map #[] 0)) (Nat.le_refl _) (g := w.heap.size) (c := (0, 0)) ⟨#[], 0, heap_alloc_new w _, by simp, by simp, by simp, rfl⟩
    refine ⟨.map (some w.heap.size), _, _, h1, .inl ?_, .map En.add_self, h2⟩
    unfold execOp
    simp only [ho, Option.map_none, Instr.makeMap, Sem.run_bind, Sem.run_pure]
    rfl
  · cases hx
theorem insert_run (hK : KeyedAll P) {t : TypeId} {m k x : Operand} {r : AOut} (hev : EvR e ev a) (hr : HX e h w0 w) (hx : oInsert P t (ev m) (ev k) (ev x) h = some r) :
    ∃ h' w', r = .eff undef h' ∧ (Instr.mapUpdate t (a.eval m) (a.eval k) (a.eval x)).run P w = .ok () w' ∧ HX e h' w0 w' := by
  unfold oInsert at hx
  split at hx
  · rename_i rr k' v hm hk hv
    split at hx
    · rename_i es hes
      split at hx
      · rename_i kt vt hmt
        obtain ⟨u1, u2⟩ := mapT2_some hmt
        cases hb : (keyQ kt k' && es.all (fun p => keyQ kt p.1) && es.all (fun p => keyNe p.1 k')) with
        | false => rw [hb] at hx; cases hx
        | true =>
          rw [hb] at hx
          cases hx
          simp only [Bool.and_eq_true, List.all_eq_true] at hb
          obtain ⟨⟨b1, b2⟩, b3⟩ := hb
          obtain ⟨f1, l, f2⟩ := keyQ_some hK u2 b1
          have p1 := hev _ _ hm
          have p2 := flatK_eq f1 (hev _ _ hk)
          have p3 := hev _ _ hv
          generalize hq1 : a.eval m = q1 at p1
          cases p1
          rename_i g c hg
          rw [p2]
          obtain ⟨hbase, ents, clock, m1, m2, m3, m4, m5⟩ := hr.at hg hes
          have hkeys : ∀ y ∈ ents.toList, ∃ l, keyOf P kt y.key = some l := fun y hy => by
            obtain ⟨p, hp, e1, _⟩ := m3 y hy
            rw [e1]
            exact (keyQ_some hK u2 (b2 p hp)).2
          rcases (hK.1 kt u2).find w f2 ents.toList hkeys with ⟨g1, g2⟩ | ⟨j, y, g1, g2, g3⟩
          · have hlt := (Array.getElem?_eq_some_iff.1 m1).1
            have hrun : (Instr.mapUpdate t (.map (some g)) k' (a.eval x)).run P w = .ok () (ChangeMaps.setBlock w g (.map (ents.push ⟨k', a.eval x, clock⟩) (clock + 1))) := by
              simp [Instr.mapUpdate, run_underlying u1, MapKept.run_getObj_map m1, (hK.1 kt u2).check w false f2, g1, MapKept.run_setObj_map _ m1, Result.andThen, ChangeMaps.setBlock]
            refine ⟨_, _, rfl, hrun, hr.upd hg hes (w' := ChangeMaps.setBlock w g (.map (ents.push ⟨k', a.eval x, clock⟩) (clock + 1))) ⟨rfl, rfl, rfl, by simp [ChangeMaps.setBlock], fun q _ hqr => by simp only [ChangeMaps.setBlock]; rw [Array.getElem?_setIfInBounds_ne (fun e => hqr (by rw [e]))]⟩ ⟨ents.push ⟨k', a.eval x, clock⟩, clock + 1, by simp [ChangeMaps.setBlock, hlt], ?_, ?_, ?_, by simp [m5]⟩⟩
            · intro p hp
              rcases List.mem_append.1 hp with hp | hp
              · obtain ⟨y, hy, h1, h2⟩ := m2 p hp
                exact ⟨y, by simp [hy], h1, h2⟩
              · obtain rfl := List.mem_singleton.1 hp
                exact ⟨⟨k', a.eval x, clock⟩, by simp, rfl, p3⟩
            · intro y hy
              simp only [Array.toList_push, List.mem_append, List.mem_singleton] at hy
              rcases hy with hy | rfl
              · obtain ⟨p, hp, h1, h2⟩ := m3 y hy
                exact ⟨p, by simp [hp], h1, h2⟩
              · exact ⟨(k', v), by simp, rfl, p3⟩
            · refine List.pairwise_append.2 ⟨m4, by simp, fun p hp q2 hq => ?_⟩
              obtain rfl := List.mem_singleton.1 hq
              exact keyNe_ne (b3 p hp)
          · exfalso
            obtain ⟨p, hp, e1, _⟩ := m3 y (List.mem_of_getElem? g2)
            exact keyNe_ne (b3 p hp) (e1.symm.trans g3)
      · cases hx
    · cases hx
  · cases hx
theorem s_insert (hK : KeyedAll P) {t : TypeId} {m k x : Operand} {r : AOut} (ho : o.op = .insert t m k x ∨ o.op = .mapUpdate t m k x) (hev : EvR e ev a) (hr : HX e h w0 w) (hx : oInsert P t (ev m) (ev k) (ev x) h = some r) : Rs P a o w0 w e h r := by
  obtain ⟨h', w', rfl, h1, h2⟩ := insert_run hK hev hr hx
  refine ⟨undef, w', e, En.le.refl e, .inr ⟨?_, rfl⟩, .undef, h2⟩
  unfold execOp
  rcases ho with ho | ho <;> simp only [ho, Sem.run_bind, h1, Result.andThen_ok, Sem.run_pure]
theorem pairwise_eq {es : List (Value × Value)} (h : es.Pairwise (fun p q => p.1 ≠ q.1)) {p q : Value × Value} (hp : p ∈ es) (hq : q ∈ es) (e1 : p.1 = q.1) : p = q := by
  obtain ⟨i, hi, rfl⟩ := List.getElem_of_mem hp
  obtain ⟨j, hj, rfl⟩ := List.getElem_of_mem hq
  rcases Nat.lt_trichotomy i j with hlt | rfl | hlt
  · exact absurd e1 (List.pairwise_iff_getElem.1 h i j hi hj hlt)
  · rfl
  · exact absurd e1.symm (List.pairwise_iff_getElem.1 h j i hj hi hlt)
theorem s_lookup (hK : KeyedAll P) {t : TypeId} {m k : Operand} {ok : Bool} {v : Value} (ho : o.op = .lookup t m k ok) (hev : EvR e ev a) (hr : HX e h w0 w) (hx : oLookup P t (ev m) (ev k) ok h = some v) : RsV P a o w e v := by
  unfold oLookup at hx
  split at hx
  · rename_i rr k' hm hk
    split at hx
    · rename_i es hes
      split at hx
      · rename_i kt vt hmt
        obtain ⟨u1, u2⟩ := mapT2_some hmt
        cases hb : (keyQ kt k' && es.all (fun p => keyQ kt p.1)) with
        | false => rw [hb] at hx; cases hx
        | true =>
          rw [hb] at hx
          simp only [cond_true] at hx
          simp only [Bool.and_eq_true, List.all_eq_true] at hb
          obtain ⟨b1, b2⟩ := hb
          obtain ⟨f1, l, f2⟩ := keyQ_some hK u2 b1
          have p1 := hev _ _ hm
          have p2 := flatK_eq f1 (hev _ _ hk)
          generalize hq1 : a.eval m = q1 at p1
          cases p1
          rename_i g c hg
          obtain ⟨hbase, ents, clock, m1, m2, m3, m4, m5⟩ := hr.at hg hes
          have hkeys : ∀ y ∈ ents.toList, ∃ l, keyOf P kt y.key = some l := fun y hy => by
            obtain ⟨p, hp, e1, _⟩ := m3 y hy
            rw [e1]
            exact (keyQ_some hK u2 (b2 p hp)).2
          have hex : ∀ {u : Value}, (Instr.lookup t (.map (some g)) k' ok).run P w = .ok u w → (execOp a.eval o).run P w = .ok (.value u) w := by
            intro u hu
            unfold execOp
            simp only [ho, hq1, p2, Sem.run_bind, hu, Result.andThen_ok, Sem.run_pure]
          split at hx
          · rename_i y hy
            cases hx
            obtain ⟨p, hp, hpk, rfl⟩ := mfind_some hy
            rcases (hK.1 kt u2).find w f2 ents.toList hkeys with ⟨g1, g2⟩ | ⟨j, y, g1, g2, g3⟩
            · exfalso
              obtain ⟨z, hz, e1, _⟩ := m2 p hp
              exact g2 z hz (e1.trans hpk)
            · obtain ⟨p2', hp2, e1, e2⟩ := m3 y (List.mem_of_getElem? g2)
              have := pairwise_eq m4 hp hp2 (hpk.trans (g3.symm.trans e1))
              subst this
              refine ⟨if ok then .tuple #[y.val, .bool true] else y.val, hex ?_, ?_⟩
              · simp [Instr.lookup, run_underlying u1, MapKept.run_getObj_map m1, (hK.1 kt u2).check w _ f2, g1, Result.andThen]
              · cases ok
                · exact e2
                · exact .tuple (a := [p.2, .bool true]) (a' := [y.val, .bool true]) (.cons e2 (.cons (.bool _) .nil))
          · cases hc : es.all (fun p => keyNe p.1 k') with
            | false => rw [hc] at hx; cases hx
            | true =>
              rw [hc] at hx
              simp only [cond_true] at hx
              split at hx
              · rename_i i hi
                split at hx
                · rename_i z hz
                  cases hf : flat1 z with
                  | false => rw [hf] at hx; cases hx
                  | true =>
                    rw [hf] at hx
                    cases hx
                    rw [List.all_eq_true] at hc
                    rcases (hK.1 kt u2).find w f2 ents.toList hkeys with ⟨g1, g2⟩ | ⟨j, y, g1, g2, g3⟩
                    · refine ⟨if ok then .tuple #[z, .bool false] else z, hex ?_, ?_⟩
                      · have hzv : (zeroValue vt).run P w = .ok z w := by simp [zeroValue, typeInfo, hi, hz]
                        simp [Instr.lookup, run_underlying u1, MapKept.run_getObj_map m1, (hK.1 kt u2).check w _ f2, g1, Result.andThen, hzv]
                      · cases ok
                        · exact flat1_vr hf
                        · exact .tuple (a := [z, .bool false]) (a' := [z, .bool false]) (.cons (flat1_vr hf) (.cons (.bool _) .nil))
                    · exfalso
                      obtain ⟨p, hp, e1, _⟩ := m3 y (List.mem_of_getElem? g2)
                      exact keyNe_ne (hc p hp) (e1.symm.trans g3)
                · cases hx
              · cases hx
      · cases hx
    · cases hx
  · cases hx
end
end Go.Proofs.YtkpbhdhkdonghaaGreat
