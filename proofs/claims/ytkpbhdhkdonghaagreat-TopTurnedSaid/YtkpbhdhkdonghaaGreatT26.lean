/-
  Part 26 of the proof.
-/
import Derived.Great.BuildSlice
import Derived.Test.YtkpbhdhkdonghaaGreatT25
set_option linter.all false
namespace Go.Proofs.YtkpbhdhkdonghaaGreat
open Go Go.RowKit
section
variable {P : Program} {ev : Ev} {e : En} {h : AH} {w0 : Base} {w : World} {a : Act} {o : Oper}
def RsV (P : Program) (a : Act) (o : Oper) (w : World) (e : En) (v : Value) : Prop := ∃ u, (execOp a.eval o).run P w = .ok (.value u) w ∧ VR e v u
def RsE (P : Program) (a : Act) (o : Oper) (w0 : Base) (w : World) (e : En) (v : Value) (h' : AH) : Prop :=
  ∃ u w' e', e.le e' ∧ ((execOp a.eval o).run P w = .ok (.value u) w' ∨ ((execOp a.eval o).run P w = .ok .skip w' ∧ u = undef)) ∧ VR e' v u ∧ HX e' h' w0 w'
def RsC (P : Program) (a : Act) (o : Oper) (w : World) (e : En) (f : FuncId) (args : List Value) : Prop :=
  ∃ args', (execOp a.eval o).run P w = .ok (.enter f args'.toArray) w ∧ VRs e args args'
def Rs (P : Program) (a : Act) (o : Oper) (w0 : Base) (w : World) (e : En) (_h : AH) : AOut → Prop
  | .val v => RsV P a o w e v
  | .eff v h' => RsE P a o w0 w e v h'
  | .call f args => RsC P a o w e f args
def EvR (e : En) (ev : Ev) (a : Act) : Prop := ∀ x v, ev x = some v → VR e v (a.eval x)
theorem rv_some {x : OV} {r : AOut} (hx : rv x = some r) : ∃ v, x = some v ∧ r = .val v := by
  cases x with
  | none => cases hx
  | some v => cases hx; exact ⟨v, rfl, rfl⟩
theorem re_some {v : Value} {x : Option AH} {r : AOut} (hx : re v x = some r) : ∃ h', x = some h' ∧ r = .eff v h' := by
  cases x with
  | none => cases hx
  | some h' => cases hx; exact ⟨h', rfl, rfl⟩
theorem s_move {x : Operand} {v : Value} (ho : o.op = .move x) (hev : EvR e ev a) (hx : ev x = some v) : RsV P a o w e v :=
  ⟨a.eval x, by unfold execOp; simp only [ho]; rfl, hev x v hx⟩
theorem s_assign {x : Operand} {v : Value} (ho : o.op = .assign x) (hev : EvR e ev a) (hx : ev x = some v) : RsV P a o w e v :=
  ⟨a.eval x, by unfold execOp; simp only [ho]; rfl, hev x v hx⟩
theorem s_pick {c x y : Operand} {v : Value} (ho : o.op = .pick c x y) (hev : EvR e ev a) (hx : oPick (ev c) (ev x) (ev y) = some v) : RsV P a o w e v := by
  unfold oPick at hx
  split at hx
  · rename_i hc
    have h1 := hev _ _ hc
    generalize hu : a.eval c = u at h1
    cases h1
    exact ⟨a.eval x, by unfold execOp; simp [ho, hu, asBool], hev _ _ hx⟩
  · rename_i hc
    have h1 := hev _ _ hc
    generalize hu : a.eval c = u at h1
    cases h1
    exact ⟨a.eval y, by unfold execOp; simp [ho, hu, asBool], hev _ _ hx⟩
  · cases hx
theorem s_nil {x : Operand} {v : Value} (ho : o.op = .nilCheck x) (hev : EvR e ev a) (hx : oNil (ev x) = some v) : RsV P a o w e v := by
  unfold oNil at hx
  split at hx
  all_goals first | (cases hx; done) | skip
  all_goals (rename_i hc; cases hx; have h1 := hev _ _ hc; refine ⟨a.eval x, ?_, h1⟩; generalize hu : a.eval x = u at h1; cases h1 <;> (unfold execOp; simp [ho, hu]))
theorem growAlloc (w : World) (o : Obj) : w.grownBy (w.alloc o) none := ⟨rfl, rfl, rfl, by simp, fun k hk _ => heap_alloc_old w o hk⟩
theorem OR_mkRow {g : Nat} {c : Nat} {cs us : List Value} {t : TypeId} (hh : w.heap[g]? = some (.cells us.toArray t)) (hv : VRs e cs us) : OR e w g (c, 0) (mkRow cs) := by
  have hl := hv.length
  unfold mkRow
  cases longer 300 cs with
  | false =>
    refine ⟨us.toArray, t, hh, by simp [hl], ?_, fun h => absurd rfl h, fun _ => ⟨rfl, by simp [hl]⟩⟩
    rw [show (us.toArray.toList.drop (c, 0).2).take cs.length = us by rw [← hl]; simp]
    exact hv
  | true =>
    refine ⟨rof_cut cs, us.toArray, t, hh, rfl, by rw [rof_list]; simp [hl], ?_⟩
    rw [rof_list]
    exact hv
theorem new_row (hr : HX e h w0 w) {cs us : List Value} {t : TypeId} {k : Nat} {h' : AH} (hnew : h.new (mkRow cs) = some (k, h')) (hv : VRs e cs us) : k = h.n ∧ e.le (e.add h.n w.heap.size (0, 0)) ∧ HX (e.add h.n w.heap.size (0, 0)) h' w0 (w.alloc (.cells us.toArray t)) :=
  hr.add hnew (growAlloc w _) (Nat.le_refl _) (OR_mkRow (heap_alloc_new w _) (hv.mono (En.le_add hr.fresh)))
theorem toArray_cells (v : Value) : v.cells = v.cells.toList.toArray := by simp
theorem s_new {u : Value} {t : TypeId} {r : AOut} (hr : HX e h w0 w) {cs : List Value} (hn : oNew h cs = some r) (hv : VRs e cs u.cells.toList)
    (hrun : (execOp a.eval o).run P w = .ok (.value (.pointer (some ⟨w.heap.size, 0, none⟩))) (w.alloc (.cells u.cells t))) : Rs P a o w0 w e h r := by
  unfold oNew at hn
  split at hn
  · rename_i k h' hnew
    cases hn
    obtain ⟨rfl, h1, h2⟩ := new_row (t := t) hr hnew hv
    exact ⟨_, _, _, h1, .inl hrun, .ptr En.add_self, by rw [toArray_cells u]; exact h2⟩
  · cases hn
theorem s_alloc {t : TypeId} {r : AOut} (ho : o.op = .alloc t) (hr : HX e h w0 w) (hx : oAlloc P t h = some r) : Rs P a o w0 w e h r := by
  unfold oAlloc at hx
  split at hx
  · rename_i z hz
    obtain ⟨v, h1, h2⟩ := zeroT_run hz w
    refine s_new (u := v) (t := t) hr hx (by rw [h2]; exact zeroT_vr hz) ?_
    unfold execOp
    simp only [ho, Instr.alloc, newVar, newRow, Sem.run_bind, Sem.run_pure, h1, Result.andThen_ok]
    rfl
  · cases hx
theorem s_box {t : TypeId} {x : Operand} {r : AOut} (ho : o.op = .box t x) (hev : EvR e ev a) (hr : HX e h w0 w) (hx : oBox (ev x) h = some r) : Rs P a o w0 w e h r := by
  unfold oBox at hx
  split at hx
  · rename_i v hv
    refine s_new (u := a.eval x) (t := t) hr hx (hev _ _ hv).cells ?_
    unfold execOp
    simp only [ho, Instr.box, newVar, newRow, Sem.run_bind, Sem.run_pure]
    rfl
  · cases hx
theorem s_load {t : TypeId} {x : Operand} {v : Value} (ho : o.op = .load t x) (hev : EvR e ev a) (hr : HX e h w0 w) (hx : aload P t (ev x) h = some v) : RsV P a o w e v := by
  obtain ⟨k, off, hk, hap⟩ := aload_some hr hx
  have h1 := hev _ _ hk
  generalize hu : a.eval x = u at h1
  cases h1
  rename_i g c hg
  obtain ⟨cs, hc, hx⟩ := hap g c hg
  obtain ⟨ds, h1, h2, h3⟩ := hr.rowIs hg hc
  obtain ⟨u, h4, h5⟩ := apart_load hx h1 h2 h3
  refine ⟨u, ?_, h5⟩
  unfold execOp
  simp only [ho, hu, Instr.loadAt, Instr.sureAddr, Sem.run_bind, Sem.run_pure, Result.andThen_ok, h4]
theorem take_lay {α : Type} (ds us : List α) (off n : Nat) (h : off + us.length ≤ n) (h2 : n ≤ ds.length) : (ds.take off ++ us ++ ds.drop (off + us.length)).take n = (ds.take n).take off ++ us ++ (ds.take n).drop (off + us.length) := by
  have e1 : (ds.take n).take off = ds.take off := by rw [List.take_take, Nat.min_eq_left (by omega)]
  rw [e1, List.drop_take, List.take_append]
  have hl : (ds.take off ++ us).length = off + us.length := by simp; omega
  rw [hl, List.take_of_length_le (by omega)]
theorem drop_lay {α : Type} (ds us : List α) (off d n : Nat) (h : off + d ≤ ds.length) : (ds.take (off + d) ++ us ++ ds.drop (off + d + n)).drop d = (ds.drop d).take off ++ us ++ (ds.drop d).drop (off + n) := by
  have h1 : (ds.take (off + d)).length = off + d := by simp; omega
  rw [List.append_assoc, List.drop_append_of_le_length (by omega), List.drop_take, List.drop_drop, Nat.add_sub_cancel, show d + (off + n) = off + d + n by omega, List.append_assoc]
theorem lay_row (hr : HX e h w0 w) {k g off : Nat} {c : Nat × Nat} {vs us : List Value} {h' : AH} (hg : e k = some (g, c)) (hl : h.lay k off vs = some h') (hv : VRs e vs us) (h1 : vs.all cell1 = true) : ∃ w', (storeCells ⟨g, off + c.2, none⟩ us).run P w = .ok () w' ∧ HX e h' w0 w' := by
  unfold AH.lay at hl
  split at hl
  · rename_i cs es hc
    split at hl
    · rename_i cs' hcs
      cases hl
      rw [llayQ_eq] at hcs
      obtain ⟨e1, e2⟩ := llay_some _ _ _ _ hcs
      obtain ⟨hb, ds, t, a1, hds, a2, a3, a4⟩ := hr.at hg hc
      have hlen := hv.length
      have hst := run_storeCells_at P g (off + c.2) t us 0 ds w a1 (by omega) (hv.cells h1)
      simp only [Nat.add_zero] at hst
      have hcl : cs'.length = cs.length := by rw [e1]; simp; omega
      have hh : ds.toList.length = ds.size := Array.length_toList
      refine ⟨_, hst, hr.upd hg hc (grownBy_setRow w g _) ⟨_, t, setRow_heap w g ds _ t _ a1, ?_, ?_, ?_, fun hes => ?_⟩⟩
      · rw [hcl]; simp; omega
      · rw [hcl, e1, List.toList_toArray, drop_lay _ _ _ _ _ (by omega), take_lay _ _ _ _ (by omega) (by simp; omega), hlen]
        exact ((a2.take off).append hv).append (a2.drop _)
      · intro hes
        obtain ⟨b1, b2⟩ := a3 hes
        refine ⟨by rw [hcl]; exact b1, ?_⟩
        simp
        omega
      · obtain ⟨b1, b2⟩ := a4 hes
        refine ⟨b1, ?_⟩
        rw [hcl]
        simp
        omega
    · cases hl
  · rename_i r hc
    split at hl
    · rename_i r' hcs
      cases hl
      obtain ⟨hb, hcut, ds, t, a1, a2, a3, a4⟩ := hr.at hg hc
      obtain ⟨e0, e1, e2⟩ := rlay_some hcut hcs
      have hc2 : c.2 = 0 := by rw [a2]
      have hlen := hv.length
      have hst := run_storeCells_at P g (off + c.2) t us 0 ds w a1 (by omega) (hv.cells h1)
      simp only [Nat.add_zero] at hst
      have hcl : (rlist r').length = (rlist r).length := by rw [e1]; simp; omega
      have hh : ds.toList.length = ds.size := Array.length_toList
      refine ⟨_, hst, hr.upd hg hc (grownBy_setRow w g _) ⟨e0, _, t, setRow_heap w g ds _ t _ a1, a2, ?_, ?_⟩⟩
      · rw [hcl]; simp; omega
      · rw [e1, List.toList_toArray, hc2, Nat.add_zero, ← hlen]
        exact ((a4.take off).append hv).append (a4.drop _)
    · cases hl
  · cases hl
theorem s_store {t : TypeId} {x y : Operand} {h' : AH} (ho : o.op = .store t x y) (hev : EvR e ev a) (hr : HX e h w0 w) (hx : astore P t (ev x) (ev y) h = some h') : RsE P a o w0 w e undef h' := by
  have key : ∀ {k off : Nat} {v : Value} {n : Nat}, ev x = some (.pointer (some ⟨k, off, none⟩)) → ev y = some v → sizeT P t = some n → v.cells.toList.length = n → v.cells.toList.all cell1 = true → h.lay k off v.cells.toList = some h' → RsE P a o w0 w e undef h' := by
    intro k off v n hk hy hs hl h1 hlay
    have hp := hev _ _ hk
    generalize hu : a.eval x = u at hp
    cases hp
    rename_i g c hg
    have hv := (hev _ _ hy).cells
    obtain ⟨w', h2, h3⟩ := lay_row (P := P) hr hg hlay hv h1
    refine ⟨undef, w', e, En.le.refl e, .inr ⟨?_, rfl⟩, .undef, h3⟩
    have hn : (a.eval y).cells.size = n := by rw [← Array.length_toList, hv.length, hl]
    unfold execOp
    simp [ho, hu, Instr.storeAt, Instr.sureAddr, storeVar, sizeT_run hs, hn, h2]
  unfold astore at hx
  split at hx
  · rename_i k off vs hk hy
    split at hx
    · rename_i n hs
      cases hb : okCells n vs.toList with
      | false => rw [hb] at hx; cases hx
      | true =>
        rw [hb] at hx
        obtain ⟨q1, q2⟩ := okCells_some _ _ hb
        exact key hk hy hs q1 q2 hx
    · cases hx
  · rename_i k off v hna hk hy
    split at hx
    · rename_i n hs
      cases hb : Nat.beq 1 n with
      | false => rw [hb] at hx; cases hx
      | true =>
        rw [hb] at hx
        cases hc : cell1 v with
        | false => rw [cellQ_eq, hc] at hx; cases hx
        | true =>
          rw [cellQ_eq, hc] at hx
          have hcs := cell1_cells hc
          have hcl : v.cells.toList = [v] := by rw [hcs]
          exact key hk hy hs (by rw [hcl]; exact Nat.eq_of_beq_eq_true hb) (by rw [hcl]; simp [hc]) (by rw [hcl]; exact hx)
    · cases hx
  · cases hx
end
end Go.Proofs.YtkpbhdhkdonghaaGreat

namespace Go.Proofs.YtkpbhdhkdonghaaGreat
open Go Go.RowKit
section
variable {P : Program} {ev : Ev} {e : En} {h : AH} {w0 : Base} {w : World} {a : Act} {o : Oper}
theorem foldl_lay (off : Nat) : ∀ (us : List Value) (i : Nat) (cs : Array Value), off + i + us.length ≤ cs.size → ((us.zipIdx i).foldl (fun cs (p : Value × Nat) => cs.setIfInBounds (off + p.2) p.1) cs).toList = cs.toList.take (off + i) ++ us ++ cs.toList.drop (off + i + us.length)
  | [], i, cs, h => by simp
  | u :: us, i, cs, h => by
    simp only [List.length_cons] at h
    rw [List.zipIdx_cons, List.foldl_cons, foldl_lay off us (i + 1) _ (by simp; omega)]
    apply List.ext_getElem?
    intro j
    simp only [Array.toList_setIfInBounds, List.length_cons]
    have hs : cs.toList.length = cs.size := Array.length_toList
    by_cases h1 : j < off + i
    · rw [List.append_assoc, List.append_assoc, List.getElem?_append_left (by simp; omega), List.getElem?_append_left (by simp; omega), List.getElem?_take_of_lt (by omega), List.getElem?_take_of_lt h1, List.getElem?_set_ne (by omega)]
    · by_cases h2 : j = off + i
      · subst h2
        rw [List.append_assoc, List.append_assoc, List.getElem?_append_left (by simp; omega), List.getElem?_append_right (by simp; omega), List.getElem?_take_of_lt (by omega), List.getElem?_set_self (by omega)]
        rw [List.length_take, show min (off + i) cs.toList.length = off + i by omega, Nat.sub_self]
        simp
      · by_cases h3 : j < off + i + 1 + us.length
        · rw [List.getElem?_append_left (by simp; omega), List.getElem?_append_right (by simp; omega), List.getElem?_append_left (by simp; omega), List.getElem?_append_right (by simp; omega)]
          simp only [List.length_take, List.length_set]
          rw [show min (off + (i + 1)) cs.toList.length = off + (i + 1) by omega, show min (off + i) cs.toList.length = off + i by omega, show j - (off + i) = (j - (off + (i + 1))) + 1 by omega, List.getElem?_cons_succ]
        · rw [List.getElem?_append_right (by simp; omega), List.getElem?_append_right (by simp; omega)]
          simp only [List.length_append, List.length_take, List.length_set, List.length_cons, List.getElem?_drop]
          rw [List.getElem?_set_ne (by omega)]
          congr 1
          omega
theorem afill_sound (place : Nat → Option (Nat × Nat)) : ∀ (l l' : List (Nat × Value)) (cs cs' out : List Value), l.map (·.1) = l'.map (·.1) → VRs e (l.map (·.2)) (l'.map (·.2)) → VRs e cs cs' → afill place l cs = some out → ∃ out', Instr.fill place cs'.toArray l' = some out'.toArray ∧ VRs e out out'
  | [], [], cs, cs', out, _, _, hc, ho => by cases ho; exact ⟨cs', rfl, hc⟩
  | [], _ :: _, _, _, _, h, _, _, _ => by cases h
  | _ :: _, [], _, _, _, h, _, _, _ => by cases h
  | (i, v) :: l, (j, u) :: l', cs, cs', out, h, hv, hc, ho => by
    simp only [List.map_cons, List.cons.injEq] at h
    obtain ⟨rfl, ht⟩ := h
    simp only [List.map_cons] at hv
    cases hv
    rename_i h1 h2
    unfold afill at ho
    unfold Instr.fill
    cases hp : place i with
    | none => rw [hp] at ho; cases ho
    | some q =>
      obtain ⟨off, size⟩ := q
      rw [hp] at ho
      simp only at ho ⊢
      cases hb : Nat.beq v.cells.size size with
      | false => rw [hb] at ho; cases ho
      | true =>
        rw [hb] at ho
        have hsz := Nat.eq_of_beq_eq_true hb
        simp only [cond_true] at ho
        split at ho
        · rename_i cs2 hl
          obtain ⟨e1, e2⟩ := llay_some _ _ _ _ hl
          have hvc := h1.cells
          have hlen := hvc.length
          have hlc := hc.length
          have hus : u.cells.size = size := by rw [← Array.length_toList, hlen, Array.length_toList, hsz]
          have e3 : off + size ≤ cs.length := by rw [Array.length_toList, hsz] at e2; exact e2
          have hfold := foldl_lay off u.cells.toList 0 cs'.toArray (by simp [hus]; omega)
          simp only [Nat.add_zero] at hfold
          have hc2 : VRs e cs2 (cs'.take off ++ u.cells.toList ++ cs'.drop (off + u.cells.toList.length)) := by
            rw [e1, hlen]
            exact ((hc.take off).append hvc).append (hc.drop _)
          obtain ⟨out', h3, h4⟩ := afill_sound place l l' cs2 _ out ht h2 hc2 ho
          refine ⟨out', ?_, h4⟩
          rw [if_neg (by simp [hus]; omega), ← h3]
          congr 1
          apply Array.ext'
          rw [← hfold, ← Array.foldl_toList]
          simp
        · cases ho
theorem parts_sound (hev : EvR e ev a) : ∀ (ps : List (Nat × Operand)) (l : List (Nat × Value)), parts ev ps = some l → l.map (·.1) = (ps.map fun p => (p.1, a.eval p.2)).map (·.1) ∧ VRs e (l.map (·.2)) ((ps.map fun p => (p.1, a.eval p.2)).map (·.2))
  | [], l, h => by cases h; exact ⟨rfl, .nil⟩
  | (i, x) :: ps, l, h => by
    unfold parts at h
    split at h
    · rename_i v m hv hm
      cases h
      obtain ⟨h1, h2⟩ := parts_sound hev ps m hm
      exact ⟨by simp [h1], .cons (hev _ _ hv) h2⟩
    · cases h
theorem evsQ_eq (ev : Ev) : ∀ l : List Operand, evsQ ev l = evs ev l
  | [] => rfl
  | x :: l => by
    show Option.rec (motive := fun _ => Option (List Value)) none (fun v => Option.rec (motive := fun _ => Option (List Value)) none (fun m => some (v :: m)) (evsQ ev l)) (ev x) = evs ev (x :: l)
    have h1 : evs ev (x :: l) = (match ev x, evs ev l with | some v, some m => some (v :: m) | _, _ => none) := rfl
    rw [evsQ_eq ev l, h1]
    cases ev x <;> cases evs ev l <;> rfl
theorem evs_sound (hev : EvR e ev a) : ∀ (l : List Operand) (vs : List Value), evs ev l = some vs → VRs e vs (l.map a.eval)
  | [], vs, h => by cases h; exact .nil
  | x :: l, vs, h => by
    unfold evs at h
    split at h
    · rename_i v m hv hm
      cases h
      exact .cons (hev _ _ hv) (evs_sound hev l m hm)
    · cases h
theorem elemS_some {t et : TypeId} {s : Nat} (hx : elemS P t = some (et, s)) : P.underlying t = some (.slice et) ∧ sizeT P et = some s := by
  unfold elemS at hx
  split at hx
  · rename_i e2 hu
    split at hx
    · rename_i n hn
      cases hx
      exact ⟨hu, hn⟩
    · cases hx
  · cases hx
theorem elemA_some {t et : TypeId} {n s : Nat} (hx : elemA P t = some (n, et, s)) : P.underlying t = some (.array n et) ∧ sizeT P et = some s := by
  unfold elemA at hx
  split at hx
  · rename_i n2 e2 hu
    split at hx
    · rename_i m hm
      cases hx
      exact ⟨hu, hm⟩
    · cases hx
  · cases hx
theorem sizeT_some {t : TypeId} {n : Nat} (h : sizeT P t = some n) : ∃ i, P.info? t = some i ∧ i.size = n := by
  unfold sizeT at h
  cases hi : P.info? t with
  | none => rw [hi] at h; cases h
  | some i => rw [hi] at h; simp at h; exact ⟨i, rfl, h⟩
theorem s_build {t : TypeId} {ps : Array (Nat × Operand)} {v : Value} (ho : o.op = .build t ps) (hev : EvR e ev a) (hx : oBuild P ev t ps.toList = some v) : RsV P a o w e v := by
  unfold oBuild at hx
  split at hx
  · rename_i l z hl hz
    obtain ⟨h1, h2⟩ := parts_sound hev _ _ hl
    obtain ⟨i, zv, z1, z2, z3, z4, z5⟩ := zeroT_info hz
    have hzz : VRs e z zv.cells.toList := by rw [z3]; exact VRs.self z4
    have hpr : (ps.map fun (i, x) => (i, a.eval x)).toList = ps.toList.map fun p => (p.1, a.eval p.2) := by simp
    have fin : ∀ {cs : List Value} {place : Nat → Option (Nat × Nat)}, afill place l z = some cs → (∀ out, Instr.fill place zv.cells (ps.map fun (i, x) => (i, a.eval x)).toList = some out → P.built t (ps.map fun (i, x) => (i, a.eval x)).toList = some out) → RsV P a o w e (.agg cs.toArray) := by
      intro cs place hf hb
      obtain ⟨out, h3, h4⟩ := afill_sound place l _ z _ cs h1 h2 hzz hf
      refine ⟨.agg out.toArray, ?_, .agg h4⟩
      have h5 := hb out.toArray (by rw [hpr]; simpa using h3)
      unfold execOp
      simp only [ho, Sem.run_bind, run_build w t _ _ h5, Result.andThen_ok, Sem.run_pure]
    cases he : elemA P t with
    | some q =>
      obtain ⟨n, et, s⟩ := q
      rw [he] at hx
      simp only at hx
      split at hx
      · rename_i cs hcs
        cases hx
        obtain ⟨e1, e2⟩ := elemA_some he
        obtain ⟨ie, e3, e4⟩ := sizeT_some e2
        refine fin hcs fun out hout => ?_
        unfold Program.built
        simp only [z1, e1, z2, e3, e4]
        exact hout
      · cases hx
    | none =>
      rw [he] at hx
      simp only at hx
      cases hpl : placesT P t with
      | none => rw [hpl] at hx; cases hx
      | some pl =>
        rw [hpl] at hx
        simp only at hx
        split at hx
        · rename_i cs hcs
          cases hx
          unfold placesT at hpl
          split at hpl
          · rename_i fs hu
            refine fin hcs fun out hout => ?_
            unfold Program.built
            simp only [z1, hu, z2, hpl]
            rw [← hout]
            congr 1
            funext j
            simp [placeF, lat_eq]
          · cases hpl
        · cases hx
  · cases hx
theorem azeros_length {z : List Value} : ∀ n, (azeros z n).length = n * z.length
  | 0 => by simp [azeros]
  | n + 1 => by simp [azeros, azeros_length n, Nat.succ_mul]; omega
theorem azeros_get {z : List Value} : ∀ (n i : Nat), i < n * z.length → (azeros z n)[i]? = z[i % z.length]?
  | 0, i, h => by simp at h
  | n + 1, i, h => by
    unfold azeros
    rw [Nat.succ_mul] at h
    by_cases hi : i < z.length
    · rw [List.getElem?_append_left hi, Nat.mod_eq_of_lt hi]
    · rw [List.getElem?_append_right (by omega), azeros_get n _ (by omega), Nat.mod_eq_sub_mod (a := i) (by omega)]
theorem azeros_range {z : Array Value} (n : Nat) : (Array.range (n * z.size)).map (z[· % z.size]!) = (azeros z.toList n).toArray := by
  apply Array.ext'
  apply List.ext_getElem?
  intro i
  by_cases hi : i < n * z.size
  · rw [List.toList_toArray, azeros_get n i (by simpa using hi)]
    have hpos : 0 < z.size := by
      rcases Nat.eq_zero_or_pos z.size with h0 | h0
      · rw [h0] at hi; simp at hi
      · exact h0
    have hm : i % z.size < z.size := Nat.mod_lt _ hpos
    simp [hi, hm]
  · rw [List.getElem?_eq_none (by simp; omega), List.getElem?_eq_none (by simp [azeros_length]; omega)]
theorem s_slicerow {n m : Nat} {cs us : List Value} {t : TypeId} {r : AOut} (hr : HX e h w0 w) (hn : oSlice h cs n m = some r) (hnm : n ≤ m) (hm : m < HALF) (hv : VRs e cs us)
    (hrun : (execOp a.eval o).run P w = .ok (.value (.slice (some ⟨w.heap.size, 0, none⟩) n m)) (w.alloc (.cells us.toArray t))) : Rs P a o w0 w e h r := by
  unfold oSlice at hn
  split at hn
  · rename_i k h' hnew
    cases hn
    obtain ⟨rfl, h1, h2⟩ := new_row (t := t) hr hnew hv
    have hc : capOf 0 m = m := by unfold capOf; rw [if_pos hm]
    refine ⟨_, _, _, h1, .inl hrun, ?_, h2⟩
    have h3 := VR.slice (e := e.add h.n w.heap.size (0, 0)) (off := 0) (n := n) (c := m) En.add_self (by rw [hc]; exact hnm) (fun hh => absurd hh (by omega))
    rwa [hc] at h3
  · cases hn
theorem s_buildS {t : TypeId} {len : Nat} {ps : Array (Nat × Operand)} {r : AOut} (ho : o.op = .buildSlice t len ps) (hev : EvR e ev a) (hr : HX e h w0 w) (hx : oBuildS P ev t len ps.toList h = some r) : Rs P a o w0 w e h r := by
  unfold oBuildS at hx
  split at hx
  · rename_i l et s hl hes
    obtain ⟨h1, h2⟩ := parts_sound hev _ _ hl
    obtain ⟨u1, u2⟩ := elemS_some hes
    split at hx
    · rename_i z hz
      obtain ⟨i, zv, z1, z2, z3, z4, z5⟩ := zeroT_info hz
      split at hx
      · rename_i cs hcs
        obtain ⟨ie, e3, e4⟩ := sizeT_some u2
        rw [z1] at e3
        cases e3
        have hzsz : zv.cells.size = s := by rw [← Array.length_toList, z3, z5, e4]
        cases hb : (Nat.ble (Nat.mul len s) 16000000 && not (Nat.beq (Nat.mul len s) 0)) with
        | false =>
          rw [hb] at hx
          simp only [cond_false] at hx
          split at hx
          · have hpr : (ps.map fun (i, x) => (i, a.eval x)).toList = ps.toList.map fun p => (p.1, a.eval p.2) := by simp
            have hpn : (ps.map fun (i, x) => (i, a.eval x)).toList = [] := by
              rw [hpr]
              cases hq : (ps.toList.map fun p => (p.1, a.eval p.2)) with
              | nil => rfl
              | cons _ _ => rw [hq] at h1; cases h1
            refine s_slicerow (t := et) (us := []) hr hx (Nat.le_refl _) (by unfold HALF; omega) .nil ?_
            unfold execOp
            have hbs : (Instr.buildSlice t 0 (ps.map fun (i, x) => (i, a.eval x))).run P w = .ok (.slice (some ⟨w.heap.size, 0, none⟩) 0 0) (w.alloc (.cells #[] et)) := by
              unfold Instr.buildSlice
              rw [hpn]
              simp [run_underlying u1, sizeOf, typeInfo, z1, newRow, Instr.fill]
              rw [show Array.range 0 = #[] from rfl, Array.map_empty]
            simp only [ho, Sem.run_bind, hbs, Result.andThen_ok, Sem.run_pure]
          · cases hx
        | true =>
          rw [hb] at hx
          rw [Bool.and_eq_true] at hb
          have b1 := Nat.le_of_ble_eq_true hb.1
          have b2 : len * s ≠ 0 := fun e => by
            have h2 := hb.2
            rw [show Nat.mul len s = 0 from e] at h2
            cases h2
          obtain ⟨out, h3, h4⟩ := afill_sound (placeE s) l _ (azeros z len) _ cs h1 h2 (azeros_vr (VRs.self z4) len) hcs
          have hpr : (ps.map fun (i, x) => (i, a.eval x)).toList = ps.toList.map fun p => (p.1, a.eval p.2) := by simp
          have hlen : len ≤ 16000000 := by
            rcases Nat.eq_zero_or_pos s with hs | hs
            · subst hs; simp at b2
            · exact Nat.le_trans (Nat.le_mul_of_pos_right len hs) b1
          refine s_slicerow (t := et) hr hx (Nat.le_refl _) (by unfold HALF; omega) h4 ?_
          have hbs := run_buildSlice (P := P) w t et len (ps.map fun (i, x) => (i, a.eval x)) out.toArray i zv u1 z1 z2 (by rw [e4]; show ¬ len * s > 16777216; have : len * s ≤ 16000000 := b1; omega) (by rw [e4]; exact b2) (by
            rw [e4, hpr]
            have := azeros_range (z := zv.cells) len
            rw [hzsz] at this
            rw [hzsz, this, z3]
            exact h3)
          unfold execOp
          simp only [ho, Sem.run_bind, hbs, Result.andThen_ok, Sem.run_pure]
      · cases hx
    · cases hx
  · cases hx
end
end Go.Proofs.YtkpbhdhkdonghaaGreat

namespace Go.Proofs.YtkpbhdhkdonghaaGreat
open Go Go.RowKit
section
variable {P : Program} {ev : Ev} {e : En} {h : AH} {w0 : Base} {w : World} {a : Act} {o : Oper}
theorem fieldOff_some {s f : Nat} {d n : Nat} {t : TypeId} (hx : fieldOff P s f = some (d, t, n)) : ∃ fs x, P.underlying s = some (.struct fs) ∧ fs[f]? = some x ∧ x.offset = d ∧ x.type = t ∧ sizeT P t = some n := by
  unfold fieldOff at hx
  split at hx
  · rename_i fs hu
    split at hx
    · rename_i x hf
      split at hx
      · rename_i m hm
        cases hx
        exact ⟨fs, x, hu, hf, rfl, rfl, hm⟩
      · cases hx
    · cases hx
  · cases hx
theorem s_fieldAddr {s f : Nat} {x : Operand} {v : Value} (ho : o.op = .fieldAddr s x f) (hev : EvR e ev a) (hx : oFieldAddr P s (ev x) f = some v) : RsV P a o w e v := by
  unfold oFieldAddr at hx
  split at hx
  · rename_i k off d t n hk hf
    obtain ⟨fs, fd, h1, h2, h3, h4, h5⟩ := fieldOff_some hf
    cases hb : Nat.beq n 0 with
    | true => rw [hb] at hx; cases hx
    | false =>
      rw [hb] at hx
      cases hx
      have hp := hev _ _ hk
      generalize hu : a.eval x = u at hp
      cases hp
      rename_i g c hg
      have hn : n ≠ 0 := fun e => by subst e; cases hb
      refine ⟨.pointer (some ⟨g, off + c.2 + d, none⟩), ?_, by have := VR.ptr (off := off + d) hg; rwa [Nat.add_right_comm] at this⟩
      unfold execOp
      simp [ho, hu, Instr.fieldAt, run_underlying h1, h2, Instr.sureAddr, fieldPlace, h4, sizeT_run h5, hn, h3, Addr.add_lit]
  · cases hx
theorem s_field {s f : Nat} {x : Operand} {v : Value} (ho : o.op = .field s x f) (hev : EvR e ev a) (hx : oField P s (ev x) f = some v) : RsV P a o w e v := by
  unfold oField at hx
  split at hx
  · rename_i cs d t n hk hf
    obtain ⟨fs, fd, h1, h2, h3, h4, h5⟩ := fieldOff_some hf
    have hp := hev _ _ hk
    generalize hu : a.eval x = u at hp
    cases hp
    rename_i cs cs' hc
    obtain ⟨u, h6, h7⟩ := apart_part hx (by simpa using hc) w
    refine ⟨u, ?_, h7⟩
    unfold execOp
    simp [ho, hu, Instr.field, run_underlying h1, h2, asAgg, h4, h3, h6]
  · cases hx
theorem s_elem {k off g j s n : Nat} {c : Nat × Nat} {v : Value} (hg : e k = some (g, c)) (hx : oElem k off j s n = some v) : v = .pointer (some ⟨k, off + j * s, none⟩) ∧ j < n ∧ VR e v (.pointer (some ⟨g, off + c.2 + j * s, none⟩)) := by
  unfold oElem at hx
  cases hb : Nat.blt j n with
  | false => rw [hb] at hx; cases hx
  | true =>
    rw [hb] at hx
    cases hx
    exact ⟨rfl, Nat.le_of_ble_eq_true hb, by have := VR.ptr (off := off + j * s) hg; rwa [Nat.add_right_comm] at this⟩
theorem s_indexAddr {t : TypeId} {x i : Operand} {v : Value} (ho : o.op = .indexAddr t x i) (hev : EvR e ev a) (hx : oIndexAddr P t (ev x) (ev i) = some v) : RsV P a o w e v := by
  unfold oIndexAddr at hx
  split at hx
  · rename_i k off q j hk hj
    split at hx
    · rename_i n et s he
      obtain ⟨h1, h2⟩ := elemA_some he
      have hp := hev _ _ hk
      have hq := hev _ _ hj
      generalize hu : a.eval x = u at hp
      generalize hv : a.eval i = y at hq
      cases hp
      cases hq
      rename_i g c hg
      obtain ⟨rfl, h3, h4⟩ := s_elem hg hx
      refine ⟨_, ?_, h4⟩
      unfold execOp
      simp [ho, hu, hv, Instr.indexAt, asIntOf, run_underlying h1, Instr.sureAddr, h3, sizeT_run h2, Addr.add_lit]
    · cases hx
  · rename_i k off n c q j hk hj
    split at hx
    · rename_i et s he
      obtain ⟨h1, h2⟩ := elemS_some he
      have hp := hev _ _ hk
      have hq := hev _ _ hj
      generalize hu : a.eval x = u at hp
      generalize hv : a.eval i = y at hq
      cases hq
      cases hp with
      | slice hg hn hc =>
        obtain ⟨rfl, h3, h4⟩ := s_elem hg hx
        refine ⟨_, ?_, h4⟩
        unfold execOp
        simp [ho, hu, hv, Instr.indexAt, asIntOf, run_underlying h1, h3, sizeT_run h2, Addr.add_lit]
      | sliceE hg hc hc2 =>
        obtain ⟨_, h3, _⟩ := s_elem hg hx
        omega
    · cases hx
  · cases hx
theorem s_index {t : TypeId} {x i : Operand} {v : Value} (ho : o.op = .index t x i) (hev : EvR e ev a) (hx : oIndex P t (ev x) (ev i) = some v) : RsV P a o w e v := by
  unfold oIndex at hx
  split at hx
  · rename_i b q j hk hj
    cases hs : isStrT P t with
    | false => rw [hs] at hx; cases hx
    | true =>
      rw [hs] at hx
      simp only [cond_true] at hx
      split at hx
      · rename_i y hy
        cases hx
        rw [lat_eq] at hy
        unfold isStrT at hs
        split at hs
        · rename_i hu2
          have hp := hev _ _ hk
          have hq := hev _ _ hj
          generalize hu : a.eval x = u at hp
          generalize hv : a.eval i = z at hq
          cases hq
          cases hp
          have hj2 := (List.getElem?_eq_some_iff.1 hy).1
          have hj3 : j < b.size := by simpa using hj2
          have hy2 : b[j]? = some y := by
            rw [getElem?_pos b j hj3]
            have := (List.getElem?_eq_some_iff.1 hy).2
            rw [Option.some.injEq, ← this]
            rfl
          refine ⟨.int .u8 (.ofNat y.toNat), ?_, .int _ _⟩
          unfold execOp
          simp [ho, hu, hv, Instr.index, asIntOf, run_underlying hu2, hy2]
        · cases hs
      · cases hx
  · rename_i cs q j hk hj
    split at hx
    · rename_i n et s he
      obtain ⟨h1, h2⟩ := elemA_some he
      cases hb : Nat.blt j n with
      | false => rw [hb] at hx; cases hx
      | true =>
        rw [hb] at hx
        have hjn : j < n := Nat.le_of_ble_eq_true hb
        have hp := hev _ _ hk
        have hq := hev _ _ hj
        generalize hu : a.eval x = u at hp
        generalize hv : a.eval i = y at hq
        cases hq
        cases hp
        rename_i cs cs' hc
        obtain ⟨u, h6, h7⟩ := apart_part hx (by simpa using hc) w
        refine ⟨u, ?_, h7⟩
        unfold execOp
        have h6' : (part et cs'.toArray (j * s)).run P w = .ok u w := h6
        simp [ho, hu, hv, Instr.index, asIntOf, run_underlying h1, hjn, sizeT_run h2, h6']
    · cases hx
  · cases hx
theorem s_extract {x : Operand} {i : Nat} {v : Value} (ho : o.op = .extract x i) (hev : EvR e ev a) (hx : oExtract (ev x) i = some v) : RsV P a o w e v := by
  unfold oExtract at hx
  split at hx
  · rename_i vs hk
    rw [lat_eq] at hx
    have hp := hev _ _ hk
    generalize hu : a.eval x = u at hp
    cases hp
    rename_i cs cs' hc
    obtain ⟨u, h1, h2⟩ := hc.get (by simpa using hx)
    refine ⟨u, ?_, h2⟩
    unfold execOp
    simp [ho, hu, Instr.extract, h1]
  · cases hx
theorem s_iface {t : TypeId} {x : Operand} {v : Value} (ho : o.op = .makeInterface t x) (hev : EvR e ev a) (hx : oIface P t (ev x) = some v) : RsV P a o w e v := by
  unfold oIface at hx
  split at hx
  · cases hx
  · rename_i y d hni hy hu
    cases hx
    refine ⟨.iface t (a.eval x), ?_, .iface t (hev _ _ hy)⟩
    unfold execOp
    simp only [ho, Instr.makeInterface, Sem.run_bind, run_underlying hu, Result.andThen_ok]
    cases d <;> first | rfl | exact absurd hu (by intro h2; exact (hni _ h2).elim) | skip
  · cases hx
theorem s_func {fn : Fn} {f c : Array Operand} {v : Value} (ho : o.op = .makeFunc fn f c) (hev : EvR e ev a) (hx : oFunc ev fn f.toList c.toList = some v) : RsV P a o w e v := by
  unfold oFunc at hx
  split at hx
  · rename_i u y hu hy
    cases hx
    refine ⟨.func fn (f.map a.eval) (c.map a.eval), ?_, ?_⟩
    · unfold execOp
      simp only [ho, Instr.makeFunc, Sem.run_bind, Sem.run_pure]
      rfl
    · have h1 := evs_sound hev _ _ hu
      have h2 := evs_sound hev _ _ hy
      rw [show f.map a.eval = (f.toList.map a.eval).toArray from Array.ext' (by simp), show c.map a.eval = (c.toList.map a.eval).toArray from Array.ext' (by simp)]
      exact VR.func fn h1 h2
  · cases hx
theorem s_makeS {t : TypeId} {l c : Operand} {r : AOut} (ho : o.op = .makeSlice t l c) (hev : EvR e ev a) (hr : HX e h w0 w) (hx : oMakeS P t (ev l) (ev c) h = some r) : Rs P a o w0 w e h r := by
  unfold oMakeS at hx
  split at hx
  · rename_i q n q2 m et s hl hc hes
    obtain ⟨u1, u2⟩ := elemS_some hes
    split at hx
    · rename_i z hz
      obtain ⟨i, zv, z1, z2, z3, z4, z5⟩ := zeroT_info hz
      cases hb : (Nat.ble n m && Nat.ble (Nat.mul m s) 1000000 && Nat.ble m 1000000 && bytesOk P et) with
      | false => rw [hb] at hx; cases hx
      | true =>
        rw [hb] at hx
        simp only [Bool.and_eq_true] at hb
        obtain ⟨⟨⟨b1, b2⟩, b3⟩, b4⟩ := hb
        have b1 := Nat.le_of_ble_eq_true b1
        have b3 := Nat.le_of_ble_eq_true b3
        unfold bytesOk at b4
        rw [z1] at b4
        simp only [Bool.and_eq_true] at b4
        have b5 : i.bytes ≤ 10000 := Nat.le_of_ble_eq_true b4.1
        have hp := hev _ _ hl
        have hq := hev _ _ hc
        generalize hu : a.eval l = u at hp
        generalize hv : a.eval c = y at hq
        cases hp
        cases hq
        have hbm : i.bytes * m ≤ 10000 * 1000000 := Nat.mul_le_mul b5 b3
        have hrun := run_make (P := P) w t et i zv u1 z1 z2 q q2 (n : Int) (m : Int) (by omega) (by omega) (by rw [← Int.natCast_mul]; omega) (by omega)
        simp only [Int.toNat_natCast] at hrun
        refine s_slicerow (t := et) (us := azeros z m) hr hx b1 (by unfold HALF; omega) (azeros_vr (VRs.self z4) m) ?_
        have hz2 : madeCells zv.cells (m * i.size) = (azeros z m).toArray := by
          have h9 := azeros_range (z := zv.cells) m
          rw [show i.size = zv.cells.size by rw [← Array.length_toList, z3, z5]]
          unfold madeCells
          rw [h9, z3]
        unfold execOp
        simp only [ho, hu, hv, Sem.run_bind]
        rw [show (Instr.makeSlice t (.int q (Int.ofNat n)) (.int q2 (Int.ofNat m))).run P w = _ from hrun]
        simp only [Result.andThen_ok, Sem.run_pure, hz2]
    · cases hx
  · cases hx
end
end Go.Proofs.YtkpbhdhkdonghaaGreat

namespace Go.Proofs.YtkpbhdhkdonghaaGreat
open Go Go.RowKit
section
variable {P : Program} {ev : Ev} {e : En} {h : AH} {w0 : Base} {w : World} {a : Act} {o : Oper}
theorem run_cut {t et : TypeId} {s : Nat} (hu : P.underlying t = some (.slice et)) (hs : sizeT P et = some s) {ad : Option Addr} {n c l h m : Nat} {lo hi mx : Option Value}
    (hlo : (lo = none ∧ l = 0) ∨ ∃ q, lo = some (.int q l)) (hhi : (hi = none ∧ h = n ∧ mx = none) ∨ ∃ q, hi = some (.int q h)) (hmx : (mx = none ∧ m = c) ∨ ∃ q, mx = some (.int q m)) (h1 : l ≤ h) (h2 : h ≤ m) (h3 : m ≤ c) :
    (Instr.sliceAt t (.slice ad n c) lo hi mx).run P w = .ok (.slice (if m = l then ad else ad.map (·.add (l * s))) (h - l) (m - l)) w := by
  have hl0 : (0 : Int) ≤ l := by omega
  have hh0 : (0 : Int) ≤ h := by omega
  have hm0 : (0 : Int) ≤ m := by omega
  unfold Instr.sliceAt
  rw [Sem.run_bind, run_underlying hu]
  simp only [Result.andThen_ok]
  unfold Instr.slice
  rw [Sem.run_bind, run_underlying hu]
  simp only [Result.andThen_ok]
  rcases hlo with ⟨rfl, rfl⟩ | ⟨q1, rfl⟩ <;> rcases hmx with ⟨rfl, rfl⟩ | ⟨q3, rfl⟩ <;> rcases hhi with ⟨rfl, rfl, hm⟩ | ⟨q2, rfl⟩ <;> (try cases hm) <;>
    simp [Instr.sliceBounds, Instr.sliceBound, asIntOf, sizeT_run hs, h1, h2, h3, Result.andThen]
theorem run_cutA {t et : TypeId} {s n : Nat} (hu : P.underlying t = some (.array n et)) (hs : sizeT P et = some s) {ad : Addr} {l h m : Nat} {lo hi mx : Option Value}
    (hlo : (lo = none ∧ l = 0) ∨ ∃ q, lo = some (.int q l)) (hhi : (hi = none ∧ h = n ∧ mx = none) ∨ ∃ q, hi = some (.int q h)) (hmx : (mx = none ∧ m = n) ∨ ∃ q, mx = some (.int q m)) (h1 : l ≤ h) (h2 : h ≤ m) (h3 : m ≤ n) :
    (Instr.sliceAt t (.pointer (some ad)) lo hi mx).run P w = .ok (.slice (some (if m = l then ad else ad.add (l * s))) (h - l) (m - l)) w := by
  have hl0 : (0 : Int) ≤ l := by omega
  have hh0 : (0 : Int) ≤ h := by omega
  have hm0 : (0 : Int) ≤ m := by omega
  unfold Instr.sliceAt
  rw [Sem.run_bind, run_underlying hu]
  simp only [Result.andThen_ok]
  rcases hlo with ⟨rfl, rfl⟩ | ⟨q1, rfl⟩ <;> rcases hmx with ⟨rfl, rfl⟩ | ⟨q3, rfl⟩ <;> rcases hhi with ⟨rfl, rfl, hm⟩ | ⟨q2, rfl⟩ <;> (try cases hm) <;>
    simp [Instr.sliceBounds, Instr.sliceBound, asIntOf, Instr.sureAddr, sizeT_run hs, h1, h2, h3, Result.andThen]
theorem anat_sound (hev : EvR e ev a) {x : Option Operand} {d c m : Nat} (hx : anat (omap ev x) d c = some m) : m ≤ c ∧ ((x.map a.eval = none ∧ m = d ∧ omap ev x = none) ∨ ∃ q, x.map a.eval = some (.int q (m : Int))) := by
  unfold anat at hx
  split at hx
  · rename_i hn
    cases hb : Nat.ble d c with
    | false => rw [hb] at hx; cases hx
    | true =>
      rw [hb] at hx
      cases hx
      cases x with
      | none => exact ⟨Nat.le_of_ble_eq_true hb, .inl ⟨rfl, rfl, rfl⟩⟩
      | some y => cases hn
  · rename_i q m2 hn
    cases hb : Nat.ble m2 c with
    | false => rw [hb] at hx; cases hx
    | true =>
      rw [hb] at hx
      cases hx
      cases x with
      | none => cases hn
      | some y =>
        have h1 : ev y = some (.int q (Int.ofNat m)) := by unfold omap at hn; simpa using hn
        have h2 := hev _ _ h1
        generalize hu : a.eval y = u at h2
        cases h2
        exact ⟨Nat.le_of_ble_eq_true hb, .inr ⟨q, by simp [hu]⟩⟩
  · cases hx
theorem aslice_sound (hev : EvR e ev a) {size len cap : Nat} {ad : Option Addr} {lo hi mx : Option Operand} {v : Value} (hx : aslice size ad len cap (omap ev lo) (omap ev hi) (omap ev mx) = some v) :
    ∃ l h m, acut size ad l h m = some v ∧ l ≤ h ∧ h ≤ (if HALF ≤ cap then len else cap) ∧ ((lo.map a.eval = none ∧ l = 0) ∨ ∃ q, lo.map a.eval = some (.int q (l : Int))) ∧
      ((mx.map a.eval = none ∧ m = cap ∧ (HALF ≤ cap → HALF + l ≤ cap) ∧ ((hi.map a.eval = none ∧ h = len) ∨ ∃ q, hi.map a.eval = some (.int q (h : Int)))) ∨
       ((∃ q, mx.map a.eval = some (.int q (m : Int))) ∧ m ≤ (if HALF ≤ cap then len else cap) ∧ h ≤ m ∧ m < HALF ∧ ∃ q, hi.map a.eval = some (.int q (h : Int)))) := by
  have hbd : cond (Nat.ble HALF cap) len cap = if HALF ≤ cap then len else cap := by
    by_cases hc : HALF ≤ cap
    · rw [if_pos hc, Nat.ble_eq_true_of_le hc]; rfl
    · rw [if_neg hc]
      cases hb : Nat.ble HALF cap with
      | true => exact absurd (Nat.le_of_ble_eq_true hb) hc
      | false => rfl
  unfold aslice at hx
  rw [hbd] at hx
  split at hx
  · rename_i hmx
    have hmx' : mx.map a.eval = none := by cases mx <;> first | rfl | cases hmx
    split at hx
    · rename_i hh hhi
      obtain ⟨b1, b2⟩ := anat_sound hev hhi
      split at hx
      · rename_i l hlo
        obtain ⟨c1, c2⟩ := anat_sound hev hlo
        cases hb : cond (Nat.ble HALF cap) (Nat.ble (Nat.add HALF l) cap) true with
        | false => rw [hb] at hx; cases hx
        | true =>
          rw [hb] at hx
          refine ⟨l, hh, cap, hx, c1, b1, c2.imp (fun q => ⟨q.1, q.2.1⟩) id, .inl ⟨hmx', rfl, fun hc => ?_, b2.imp (fun q => ⟨q.1, q.2.1⟩) id⟩⟩
          rw [Nat.ble_eq_true_of_le hc] at hb
          exact Nat.le_of_ble_eq_true hb
      · cases hx
    · cases hx
  · rename_i y hmx
    split at hx
    · rename_i m hm
      obtain ⟨b1, b2⟩ := anat_sound hev hm
      split at hx
      · cases hx
      · rename_i y2 hhi0
        split at hx
        · rename_i hh hhi
          obtain ⟨c1, c2⟩ := anat_sound hev hhi
          split at hx
          · rename_i l hlo
            obtain ⟨d1, d2⟩ := anat_sound hev hlo
            cases hb : Nat.blt m HALF with
            | false => rw [hb] at hx; cases hx
            | true =>
              rw [hb] at hx
              have hmH : m < HALF := Nat.le_of_ble_eq_true hb
              refine ⟨l, hh, m, hx, d1, Nat.le_trans c1 b1, d2.imp (fun q => ⟨q.1, q.2.1⟩) id, .inr ⟨?_, b1, c1, hmH, ?_⟩⟩
              · rcases b2 with ⟨_, _, b3⟩ | b2
                · rw [hmx] at b3; cases b3
                · exact b2
              · rcases c2 with ⟨_, _, c3⟩ | c2
                · rw [hhi0] at c3; cases c3
                · exact c2
          · cases hx
        · cases hx
    · cases hx
theorem acut_some {size k off l h m : Nat} {v : Value} (hx : acut size (some ⟨k, off, none⟩) l h m = some v) : v = .slice (some ⟨k, if m = l then off else off + l * size, none⟩) (h - l) (m - l) := by
  unfold acut at hx
  simp only [fnat_eq] at hx
  cases hx
  by_cases hml : m = l
  · subst hml
    have : Nat.beq m m = true := Nat.beq_refl m
    rw [this, if_pos rfl]
    rfl
  · have : Nat.beq m l = false := by
      cases hb : Nat.beq m l
      · rfl
      · exact absurd (Nat.eq_of_beq_eq_true hb) hml
    rw [this, if_neg hml]
    rfl
theorem add_ite {g off l m s : Nat} : (if m = l then some (⟨g, off, none⟩ : Addr) else (some (⟨g, off, none⟩ : Addr)).map (·.add (l * s))) = some ⟨g, if m = l then off else off + l * s, none⟩ := by
  split
  · rfl
  · rw [Option.map_some, Addr.add_lit]
theorem ite_shift {off d l m x : Nat} : (if m = l then off else off + x) + d = if m = l then off + d else off + d + x := by
  split <;> omega
theorem exec_slice {t : TypeId} {x : Operand} {lo hi mx : Option Operand} {u v : Value} (ho : o.op = .slice t x lo hi mx) (hu : a.eval x = u) (hrun : (Instr.sliceAt t u (lo.map a.eval) (hi.map a.eval) (mx.map a.eval)).run P w = .ok v w) : (execOp a.eval o).run P w = .ok (.value v) w := by
  unfold execOp
  simp only [ho, hu, Sem.run_bind, hrun, Result.andThen_ok, Sem.run_pure]
theorem s_slice {t : TypeId} {x : Operand} {lo hi mx : Option Operand} {v : Value} (ho : o.op = .slice t x lo hi mx) (hev : EvR e ev a) (hx : oReslice P t (ev x) (omap ev lo) (omap ev hi) (omap ev mx) = some v) : RsV P a o w e v := by
  unfold oReslice at hx
  split at hx
  · rename_i ad len cap hk
    split at hx
    · rename_i et s he
      obtain ⟨h1, h2⟩ := elemS_some he
      obtain ⟨l, hh, m, hc, b1, b2, b3, b4⟩ := aslice_sound hev hx
      have hp := hev _ _ hk
      generalize hu : a.eval x = u at hp
      have bm : (mx.map a.eval = none ∧ m = cap ∧ (HALF ≤ cap → HALF + l ≤ cap) ∧ ((hi.map a.eval = none ∧ hh = len) ∨ ∃ q, hi.map a.eval = some (.int q (hh : Int)))) ∨ ((∃ q, mx.map a.eval = some (.int q (m : Int))) ∧ m ≤ (if HALF ≤ cap then len else cap) ∧ hh ≤ m ∧ m < HALF ∧ ∃ q, hi.map a.eval = some (.int q (hh : Int))) := b4
      cases hp with
      | sliceNil =>
        have hH : ¬ HALF ≤ 0 := by unfold HALF; omega
        rw [if_neg hH] at b2
        have hm0 : m = 0 := by
          rcases bm with ⟨_, q, _⟩ | ⟨_, q, _⟩
          · exact q
          · rw [if_neg hH] at q; omega
        obtain rfl : hh = 0 := by omega
        obtain rfl : l = 0 := by omega
        subst hm0
        cases hc
        refine ⟨.slice none 0 0, exec_slice ho hu ?_, .sliceNil⟩
        have hr := run_cut (P := P) (w := w) h1 h2 (ad := none) (n := 0) (c := 0) (l := 0) (h := 0) (m := 0) (lo := lo.map a.eval) (hi := hi.map a.eval) (mx := mx.map a.eval) b3 (by rcases bm with ⟨q1, _, _, q2⟩ | ⟨q1, _, _, _, q2⟩; exact q2.imp (fun q => ⟨q.1, q.2, q1⟩) id; exact .inr q2) (by rcases bm with ⟨q1, _⟩ | ⟨q1, _⟩; exact .inl ⟨q1, rfl⟩; exact .inr q1) (Nat.le_refl _) (Nat.le_refl _) (Nat.le_refl _)
        simpa using hr
      | slice hg hn hcc =>
        rename_i k off g c0
        obtain ⟨c0, d⟩ := c0
        simp only at hn hcc hu
        have hv := acut_some hc
        subst hv
        by_cases hH : HALF ≤ cap
        · rw [if_pos hH] at b2
          obtain ⟨d1, d2⟩ := hcc hH
          have hcap : capOf c0 cap = c0 + cap - NOM := by unfold capOf; rw [if_neg (by omega)]
          have hHN : HALF = 2305843009213693952 := rfl
          have hNN : NOM = 4611686018427387904 := rfl
          rcases bm with ⟨q1, rfl, q3, q4⟩ | ⟨q1, q2, q3, q4, q5⟩
          · have q3 := q3 hH
            have hml : ¬ m = l := by omega
            rw [if_neg hml]
            have hr := run_cut (P := P) (w := w) h1 h2 (ad := some ⟨g, off + d, none⟩) (n := len) (c := capOf c0 m) (l := l) (h := hh) (m := capOf c0 m) (lo := lo.map a.eval) (hi := hi.map a.eval) (mx := mx.map a.eval) b3 (q4.imp (fun q => ⟨q.1, q.2, q1⟩) id) (.inl ⟨q1, rfl⟩) b1 (by omega) (Nat.le_refl _)
            rw [add_ite] at hr
            refine ⟨_, exec_slice ho hu hr, ?_⟩
            by_cases hz : capOf c0 m = l
            · have e1 : hh - l = 0 := by omega
              rw [if_pos hz, e1, hz, Nat.sub_self]
              exact .sliceE hg (.inl (by omega)) (by omega)
            · rw [if_neg hz]
              have e2 : capOf c0 m - l = capOf c0 (m - l) := by
                unfold capOf
                rw [if_neg (by omega), if_neg (by omega)]
                unfold capOf at hz hn hcap
                omega
              rw [e2]
              have h9 := VR.slice (e := e) (off := off + l * s) (n := hh - l) (c := m - l) hg (by rw [← e2]; omega) (fun _ => ⟨by simp only; omega, by omega⟩)
              rwa [Nat.add_right_comm] at h9
          · rw [if_pos hH] at q2
            have hr := run_cut (P := P) (w := w) h1 h2 (ad := some ⟨g, off + d, none⟩) (n := len) (c := capOf c0 cap) (l := l) (h := hh) (m := m) (lo := lo.map a.eval) (hi := hi.map a.eval) (mx := mx.map a.eval) b3 (.inr q5) (.inr q1) b1 q3 (by omega)
            rw [add_ite] at hr
            refine ⟨_, exec_slice ho hu hr, ?_⟩
            have e2 : m - l = capOf c0 (m - l) := by unfold capOf; rw [if_pos (by omega)]
            have h9 := VR.slice (e := e) (off := if m = l then off else off + l * s) (n := hh - l) (c := m - l) hg (by rw [← e2]; omega) (fun hb => absurd hb (by omega))
            simp only at h9
            rwa [← e2, ite_shift] at h9
        · rw [if_neg hH] at b2
          have hcap : capOf c0 cap = cap := by unfold capOf; rw [if_pos (by omega)]
          have hmc : m ≤ cap ∧ hh ≤ m := by
            rcases bm with ⟨_, q, _⟩ | ⟨_, q, q3, _⟩
            · omega
            · rw [if_neg hH] at q; omega
          rw [hcap] at hn hu
          have hr := run_cut (P := P) (w := w) h1 h2 (ad := some ⟨g, off + d, none⟩) (n := len) (c := cap) (l := l) (h := hh) (m := m) (lo := lo.map a.eval) (hi := hi.map a.eval) (mx := mx.map a.eval) b3 (by rcases bm with ⟨q1, _, _, q2⟩ | ⟨q1, _, _, _, q2⟩; exact q2.imp (fun q => ⟨q.1, q.2, q1⟩) id; exact .inr q2) (by rcases bm with ⟨q1, q2, _⟩ | ⟨q1, _⟩; exact .inl ⟨q1, q2⟩; exact .inr q1) b1 hmc.2 hmc.1
          rw [add_ite] at hr
          refine ⟨_, exec_slice ho hu hr, ?_⟩
          have e2 : m - l = capOf c0 (m - l) := by unfold capOf; rw [if_pos (by omega)]
          have h9 := VR.slice (e := e) (off := if m = l then off else off + l * s) (n := hh - l) (c := m - l) hg (by rw [← e2]; omega) (fun hb => absurd hb (by omega))
          simp only at h9
          rwa [← e2, ite_shift] at h9
      | sliceE hg hcE hc2 =>
        rename_i k off off' g c0
        have hv := acut_some hc
        subst hv
        have hHN : HALF = 2305843009213693952 := rfl
        have hNN : NOM = 4611686018427387904 := rfl
        have hh0 : hh = 0 := by
          by_cases hH : HALF ≤ cap
          · rw [if_pos hH] at b2; omega
          · rw [if_neg hH] at b2; omega
        subst hh0
        obtain rfl : l = 0 := by omega
        have hrun : ∀ {lo' hi' mx' : Option Value}, ((lo' = none ∧ (0:Nat) = 0) ∨ ∃ q, lo' = some (.int q ((0:Nat) : Int))) → ((hi' = none ∧ (0:Nat) = 0 ∧ mx' = none) ∨ ∃ q, hi' = some (.int q ((0:Nat) : Int))) → ((mx' = none ∧ (0:Nat) = 0) ∨ ∃ q, mx' = some (.int q ((0:Nat) : Int))) → (Instr.sliceAt t (.slice (some ⟨g, off', none⟩) 0 0) lo' hi' mx').run P w = .ok (.slice (some ⟨g, off', none⟩) 0 0) w := by
          intro lo' hi' mx' r1 r2 r3
          have := run_cut (P := P) (w := w) h1 h2 (ad := some ⟨g, off', none⟩) (n := 0) (c := 0) (l := 0) (h := 0) (m := 0) r1 r2 r3 (Nat.le_refl _) (Nat.le_refl _) (Nat.le_refl _)
          simpa using this
        rcases bm with ⟨q1, rfl, q3, q4⟩ | ⟨q1, q2, q3, q4, q5⟩
        · refine ⟨_, exec_slice ho hu (hrun b3 (q4.imp (fun q => ⟨q.1, q.2, q1⟩) id) (.inl ⟨q1, rfl⟩)), ?_⟩
          exact .sliceE hg (by omega) (by omega)
        · have hm0 : m = 0 := by
            by_cases hH : HALF ≤ cap
            · rw [if_pos hH] at q2; omega
            · rw [if_neg hH] at q2; omega
          subst hm0
          refine ⟨_, exec_slice ho hu (hrun b3 (.inr q5) (.inr q1)), ?_⟩
          exact .sliceE hg (.inr rfl) (by omega)
    · cases hx
  · rename_i ad hk
    split at hx
    · rename_i n et s he
      obtain ⟨h1, h2⟩ := elemA_some he
      cases hb : Nat.blt n HALF with
      | false => rw [hb] at hx; cases hx
      | true =>
        rw [hb] at hx
        have hnH : n < HALF := Nat.le_of_ble_eq_true hb
        obtain ⟨l, hh, m, hc, b1, b2, b3, bm⟩ := aslice_sound hev hx
        have hH : ¬ HALF ≤ n := by omega
        rw [if_neg hH] at b2
        have hp := hev _ _ hk
        generalize hu : a.eval x = u at hp
        cases hp
        rename_i k off g c0 hg
        obtain ⟨c0, d⟩ := c0
        simp only at hu
        have hv := acut_some hc
        subst hv
        have hmc : m ≤ n ∧ hh ≤ m := by
          rcases bm with ⟨_, q, _⟩ | ⟨_, q, q3, _⟩
          · omega
          · rw [if_neg hH] at q; omega
        have hr := run_cutA (P := P) (w := w) h1 h2 (ad := ⟨g, off + d, none⟩) (l := l) (h := hh) (m := m) (lo := lo.map a.eval) (hi := hi.map a.eval) (mx := mx.map a.eval) b3 (by rcases bm with ⟨q1, _, _, q2⟩ | ⟨q1, _, _, _, q2⟩; exact q2.imp (fun q => ⟨q.1, q.2, q1⟩) id; exact .inr q2) (by rcases bm with ⟨q1, q2, _⟩ | ⟨q1, _⟩; exact .inl ⟨q1, q2⟩; exact .inr q1) b1 hmc.2 hmc.1
        have e3 : (if m = l then (⟨g, off + d, none⟩ : Addr) else (⟨g, off + d, none⟩ : Addr).add (l * s)) = ⟨g, if m = l then off + d else off + d + l * s, none⟩ := by
          split
          · rfl
          · rw [Addr.add_lit]
        rw [e3] at hr
        refine ⟨_, exec_slice ho hu hr, ?_⟩
        have e2 : m - l = capOf c0 (m - l) := by unfold capOf; rw [if_pos (by omega)]
        have h9 := VR.slice (e := e) (off := if m = l then off else off + l * s) (n := hh - l) (c := m - l) hg (by rw [← e2]; omega) (fun hb => absurd hb (by omega))
        simp only at h9
        rwa [← e2, ite_shift] at h9
    · cases hx
  · cases hx
end
end Go.Proofs.YtkpbhdhkdonghaaGreat
