/-
  Part 30 of the proof.
-/
import Derived.Test.YtkpbhdhkdonghaaGreatT29
set_option linter.all false
namespace Go.Proofs.YtkpbhdhkdonghaaGreat
open Go Go.RowKit
section
variable {P : Program}
theorem flat1_rv {e e' : En} {v u : Value} (h : flat1 v = true) (hv : VR e v u) : VR e' v u := by
  cases hv <;> first | exact flat1_vr h | cases h
theorem flats_rv {e e' : En} : ∀ {l m : List Value}, l.all flat1 = true → VRs e l m → VRs e' l m
  | _, _, _, .nil => .nil
  | _, _, h, .cons hv ht => by
    rw [List.all_cons, Bool.and_eq_true] at h
    exact .cons (flat1_rv h.1 hv) (flats_rv h.2 ht)
theorem plainV_rv {e e' : En} {v u : Value} (h : plainV v = true) (hv : VR e v u) : VR e' v u := by
  cases hv with
  | agg ha => exact .agg (flats_rv (by simpa [plainV] using h) ha)
  | _ => exact flat1_rv (e := e) (by simpa [plainV] using h) (by constructor <;> assumption)
theorem plainVs_rv {e e' : En} : ∀ {l m : List Value}, l.all plainV = true → VRs e l m → VRs e' l m
  | _, _, _, .nil => .nil
  | _, _, h, .cons hv ht => by
    rw [List.all_cons, Bool.and_eq_true] at h
    exact .cons (plainV_rv h.1 hv) (plainVs_rv h.2 ht)
theorem plainT_rv {e e' : En} {v u : Value} (h : plainT v = true) (hv : VR e v u) : VR e' v u := by
  cases hv with
  | tuple ha => exact .tuple (plainVs_rv (by simpa [plainT] using h) ha)
  | _ => exact plainV_rv (e := e) (by simpa [plainT] using h) (by constructor <;> assumption)
theorem HX.rest {e e1 : En} {h h1 : AH} {w0 : Base} {w w' : World} (hr : HX e h w0 w) (h2 : HX e1 h1 (Base.all w) w') : HX e h w0 w' := by
  refine ⟨hr.below.below h2.below.toBelow, hr.small, hr.dom, fun k o hk ho => ?_, hr.inj⟩
  obtain ⟨g, c, q1, q2, q3⟩ := hr.live k o hk ho
  exact ⟨g, c, q1, q2, q3.block (h2.below.block g q3.lt)⟩
end
section
variable {P : Program} {e : En} {h : AH} {w0 : Base} {w : World} {a : Act} {o : Oper} {t : Tm} {nt : Nat} {ops : Array Oper} {C : ACall}
theorem mrunQ_eq {st : Oper → Tm → Option (Bool × Value)} : ∀ (l : List Oper) (t : Tm), mrunQ st nt l t = mrun st nt l t
  | [], _ => rfl
  | o :: l, t => by
    have h0 : mrunQ st nt (o :: l) t = Option.rec (motive := fun _ => Option (List DRec × Tm)) none (fun p => Prod.rec (motive := fun _ => Option (List DRec × Tm)) (fun b v =>
      Option.rec (motive := fun _ => Option (List DRec × Tm)) none (fun t' => mcons ⟨t, b, v⟩ (mrunQ st nt l t')) (dput nt t o.dst v)) p) (st o t) := rfl
    rw [h0]
    unfold mrun
    cases st o t with
    | none => rfl
    | some p =>
      obtain ⟨b, v⟩ := p
      simp only
      cases dput nt t o.dst v with
      | none => rfl
      | some t' => simp only [mrunQ_eq l]
theorem mrun_facts {st : Oper → Tm → Option (Bool × Value)} (hnt : nt < BIG) : ∀ (l : List Oper) (t : Tm) (rs : List DRec) (tf : Tm), mrun st nt l t = some (rs, tf) →
    (∀ (i : Nat) (o : Oper), l[i]? = some o → ∃ (r : DRec), rs[i]? = some r ∧ st o r.t = some (r.want, r.v) ∧ ∀ d, o.dst = some d → d < nt) ∧
    (∀ (i : Nat) (r : DRec), rs[i]? = some r → ∀ s, s < BIG → (∃ (j : Nat) (o' : Oper) (r' : DRec), j < i ∧ l[j]? = some o' ∧ rs[j]? = some r' ∧ o'.dst = some s ∧ tget r.t s = r'.v) ∨ ((∀ (j : Nat) (o' : Oper), j < i → l[j]? = some o' → o'.dst ≠ some s) ∧ tget r.t s = tget t s)) ∧
    (∀ s, s < BIG → (∃ (j : Nat) (o' : Oper) (r' : DRec), l[j]? = some o' ∧ rs[j]? = some r' ∧ o'.dst = some s ∧ tget tf s = r'.v) ∨ ((∀ (j : Nat) (o' : Oper), l[j]? = some o' → o'.dst ≠ some s) ∧ tget tf s = tget t s))
  | [], t, rs, tf, hx => by
    cases hx
    exact ⟨fun i o ho => by simp at ho, fun i r hr => by simp at hr, fun s _ => .inr ⟨fun j o ho => by simp at ho, rfl⟩⟩
  | o :: l, t, rs, tf, hx => by
    unfold mrun at hx
    split at hx
    · rename_i b v hstep
      split at hx
      · rename_i t' hput
        unfold mcons at hx
        split at hx
        · rename_i rs' tf' hrec
          cases hx
          obtain ⟨a3, a4, a5⟩ := mrun_facts hnt l t' rs' tf hrec
          have hslot : ∀ s, s < BIG → (o.dst = some s ∧ tget t' s = v) ∨ (o.dst ≠ some s ∧ tget t' s = tget t s) := by
            intro s hs
            rcases dput_some hput with ⟨h1, rfl⟩ | ⟨d, h1, h2, rfl⟩
            · exact .inr ⟨by rw [h1]; simp, rfl⟩
            · rw [tget_put (Nat.lt_trans h2 hnt) hs]
              by_cases hsd : s = d
              · subst hsd; exact .inl ⟨h1, by simp⟩
              · exact .inr ⟨by rw [h1]; simp; exact fun e => hsd e.symm, by simp [hsd]⟩
          refine ⟨?_, ?_, ?_⟩
          · intro i o2 ho2
            cases i with
            | zero =>
              simp only [List.getElem?_cons_zero, Option.some.injEq] at ho2
              subst ho2
              refine ⟨_, rfl, hstep, fun d hd => ?_⟩
              rcases dput_some hput with ⟨h1, _⟩ | ⟨d', h1, h2, _⟩
              · rw [h1] at hd; cases hd
              · rw [h1] at hd; cases hd; exact h2
            | succ i =>
              obtain ⟨r, b1, b2, b3⟩ := a3 i o2 (by simpa using ho2)
              exact ⟨r, by simpa using b1, b2, b3⟩
          · intro i r hr s hs
            cases i with
            | zero =>
              simp only [List.getElem?_cons_zero, Option.some.injEq] at hr
              subst hr
              exact .inr ⟨fun j o' hj => by omega, rfl⟩
            | succ i =>
              rcases a4 i r (by simpa using hr) s hs with ⟨j, o', r', c1, c2, c3, c4, c5⟩ | ⟨c1, c2⟩
              · exact .inl ⟨j + 1, o', r', by omega, by simpa using c2, by simpa using c3, c4, c5⟩
              · rcases hslot s hs with ⟨d1, d2⟩ | ⟨d1, d2⟩
                · exact .inl ⟨0, o, _, by omega, rfl, rfl, d1, c2.trans d2⟩
                · refine .inr ⟨fun j o' hj ho' => ?_, c2.trans d2⟩
                  cases j with
                  | zero => simp only [List.getElem?_cons_zero, Option.some.injEq] at ho'; subst ho'; exact d1
                  | succ j => exact c1 j o' (by omega) (by simpa using ho')
          · intro s hs
            rcases a5 s hs with ⟨j, o', r', c2, c3, c4, c5⟩ | ⟨c1, c2⟩
            · exact .inl ⟨j + 1, o', r', by simpa using c2, by simpa using c3, c4, c5⟩
            · rcases hslot s hs with ⟨d1, d2⟩ | ⟨d1, d2⟩
              · exact .inl ⟨0, o, _, rfl, rfl, d1, c2.trans d2⟩
              · refine .inr ⟨fun j o' ho' => ?_, c2.trans d2⟩
                cases j with
                | zero => simp only [List.getElem?_cons_zero, Option.some.injEq] at ho'; subst ho'; exact d1
                | succ j => exact c1 j o' (by simpa using ho')
        · cases hx
      · cases hx
    · cases hx
theorem mstatM_facts {T m : Nat} (hst : mstatM ops T m = true) : ∀ i o, ops.toList[i]? = some o → waitsB o i = true ∧ (i ≠ 0 → (isIns T m o = true ∧ bitQ (mks ops.toList []) i 0 = true) ∨ (isIns T m o = false ∧ quietO o.op = true)) ∧
    ∀ j p, ops.toList[j]? = some p → (i = j ∨ ∀ d, o.dst = some d → p.dst ≠ some d) ∧ (∀ d, p.dst = some d → hasN (onames ops o) d = true → j = i ∨ (j < i ∧ bitQ (mks ops.toList []) i j = true) ∨ (i < j ∧ bitQ (mks ops.toList []) j i = true)) := by
  intro i o ho
  unfold mstatM at hst
  simp only [mksQ_eq] at hst
  have h1 := allI_get _ _ hst i o ho
  rw [Nat.zero_add, Bool.and_eq_true, Bool.and_eq_true] at h1
  obtain ⟨c1, c2, c4⟩ := h1
  refine ⟨c1, fun hi => ?_, fun j p hp => ?_⟩
  · have hb : Nat.beq i 0 = false := by
      cases hb : Nat.beq i 0 with
      | false => rfl
      | true => exact absurd (Nat.eq_of_beq_eq_true hb) hi
    rw [hb] at c2
    cases hI : isIns T m o with
    | true => rw [hI] at c2; exact .inl ⟨rfl, c2⟩
    | false => rw [hI] at c2; exact .inr ⟨rfl, c2⟩
  · have h2 := allI_get _ _ c4 j p hp
    simp only [Nat.zero_add, Bool.and_eq_true] at h2
    obtain ⟨b1, b2⟩ := h2
    refine ⟨?_, fun d hd hn => ?_⟩
    · rw [Bool.or_eq_true] at b1
      rcases b1 with b1 | b1
      · exact .inl (Nat.eq_of_beq_eq_true b1)
      · refine .inr fun d hd hp2 => ?_
        rw [hd, hp2] at b1
        simp only [Nat.beq_refl] at b1
        cases b1
    · rw [hd] at b2
      simp only [hn, Bool.not_true, Bool.false_or, Bool.or_eq_true] at b2
      rcases b2 with b2 | b2
      · exact .inl (Nat.eq_of_beq_eq_true b2)
      · cases hb : Nat.blt j i with
        | true => rw [hb] at b2; exact .inr (.inl ⟨Nat.le_of_ble_eq_true hb, b2⟩)
        | false =>
          rw [hb] at b2
          have : ¬ j < i := fun hh => by
            have : Nat.blt j i = true := Nat.ble_eq_true_of_le hh
            rw [this] at hb; cases hb
          by_cases hji : j = i
          · exact .inl hji
          · exact .inr (.inr ⟨by omega, b2⟩)
theorem isIns_op {T m : Nat} (h : isIns T m o = true) : ∃ x y, o.op = .insert T (.tmp m) x y ∧ o.guard = none ∧ o.dst = none := by
  unfold isIns at h
  split at h
  · rename_i t n x y h1 h2 h3
    rw [Bool.and_eq_true] at h
    obtain rfl := Nat.eq_of_beq_eq_true h.1
    obtain rfl := Nat.eq_of_beq_eq_true h.2
    exact ⟨x, y, h1, h2, h3⟩
  · cases h
theorem isMk_op {T m : Nat} (h : isMk o = some (T, m)) : o.op = .makeMap T none ∧ o.guard = none ∧ o.dst = some m := by
  unfold isMk at h
  split at h
  · rename_i T' m' h1 h2 h3
    cases h
    exact ⟨h1, h2, h3⟩
  · cases h
theorem quietO_indep {ev : Ev} {op : Op} (hq : quietO op = true) (h h' : AH) : aop P ev op h = aop P ev op h' := by
  unfold quietO at hq
  rw [Bool.or_eq_true] at hq
  rcases hq with hq | hq
  · unfold isPureC at hq
    split at hq
    · rename_i c
      split at hq
      · rename_i f hc ha
        show oCall P ev c h = oCall P ev c h'
        unfold oCall
        rw [hc]
      · cases hq
    · cases hq
  · rw [Bool.not_eq_true', Bool.or_eq_false_iff] at hq
    exact aop_indep hq.1 hq.2 h h'
theorem HX.same {h' : AH} (hr : HX e h w0 w) (hn : h'.n = h.n) (ht : ∀ k, k < BIG → h'.t.get k = h.t.get k) : HX e h' w0 w :=
  ⟨hr.below, by rw [hn]; exact hr.small, fun k x hk => by rw [hn]; exact hr.dom k x hk, fun k o hk ho => hr.live k o hk (by rw [← ht k hk]; exact ho), fun k k' o o' g c c' hk hk' ho ho' => hr.inj k k' o o' g c c' hk hk' (by rw [← ht k hk]; exact ho) (by rw [← ht k' hk']; exact ho')⟩
theorem OR.perm {g : Nat} {c : Nat × Nat} {es es' : List (Value × Value)} (h : OR e w g c (.mp es)) (hp : es.Perm es') : OR e w g c (.mp es') := by
  obtain ⟨ents, clock, h1, h2, h3, h4, h5⟩ := h
  refine ⟨ents, clock, h1, fun p hp' => h2 p (hp.mem_iff.2 hp'), fun x hx => ?_, hp.pairwise h4 (fun h => fun e => h e.symm), by rw [h5, hp.length_eq]⟩
  obtain ⟨p, q1, q2⟩ := h3 x hx
  exact ⟨p, hp.mem_iff.1 q1, q2⟩
theorem HX.perm {k : Nat} {es es' : List (Value × Value)} {n : Nat} {tr : Tr AO} (hk : k < BIG) (hr : HX e ⟨tr.put k (some (.mp es)), n⟩ w0 w) (hp : es.Perm es') : HX e ⟨tr.put k (some (.mp es')), n⟩ w0 w := by
  refine ⟨hr.below, hr.small, hr.dom, fun j o hj ho => ?_, fun j j' o o' g c c' hj hj' ho ho' => ?_⟩
  · simp only [Tr.get_put _ _ hk hj] at ho
    by_cases hjk : j = k
    · subst hjk
      rw [if_pos rfl] at ho
      cases ho
      obtain ⟨g, c, q1, q2, q3⟩ := hr.live j (.mp es) hj (by simp only [Tr.get_put _ _ hk hj, if_pos])
      exact ⟨g, c, q1, q2, q3.perm hp⟩
    · rw [if_neg hjk] at ho
      exact hr.live j o hj (by simp only [Tr.get_put _ _ hk hj, if_neg hjk]; exact ho)
  · have key : ∀ {j : Nat} {o : AO}, j < BIG → (tr.put k (some (.mp es'))).get j = some o → ∃ o2, (tr.put k (some (.mp es))).get j = some o2 := by
      intro j o hj ho
      simp only [Tr.get_put _ _ hk hj] at ho ⊢
      by_cases hjk : j = k
      · rw [if_pos hjk]; exact ⟨_, rfl⟩
      · rw [if_neg hjk] at ho ⊢; exact ⟨o, ho⟩
    obtain ⟨o2, q1⟩ := key hj ho
    obtain ⟨o3, q2⟩ := key hj' ho'
    exact hr.inj j j' o2 o3 g c c' hj hj' q1 q2
theorem allP_get {p : Value × Value → Value × Value → Bool} : ∀ {l : List (Value × Value)}, allP p l = true → ∀ (i j : Nat) (x y : Value × Value), i ≠ j → l[i]? = some x → l[j]? = some y → p x y = true
  | [], _, i, j, x, y, _, hx, _ => by simp at hx
  | z :: l, h, i, j, x, y, hij, hx, hy => by
    unfold allP at h
    rw [Bool.and_eq_true, List.all_eq_true] at h
    cases i with
    | zero =>
      simp only [List.getElem?_cons_zero, Option.some.injEq] at hx
      subst hx
      cases j with
      | zero => exact absurd rfl hij
      | succ j =>
        have := h.1 y (List.mem_of_getElem? (by simpa using hy))
        rw [Bool.and_eq_true] at this
        exact this.1
    | succ i =>
      cases j with
      | zero =>
        simp only [List.getElem?_cons_zero, Option.some.injEq] at hy
        subst hy
        have := h.1 x (List.mem_of_getElem? (by simpa using hx))
        rw [Bool.and_eq_true] at this
        exact this.2
      | succ j => exact allP_get h.2 i j x y (by omega) (by simpa using hx) (by simpa using hy)
theorem new_of {o : AO} {x : Nat × AH} (hn : h.new o = some x) (o' : AO) : h.new o' = some (h.n, ⟨h.t.put h.n (some o'), h.n + 1⟩) := by
  unfold AH.new at hn ⊢
  rw [fnat_eq] at hn ⊢
  cases hb : Nat.ble h.n 16000000 with
  | false => rw [hb] at hn; cases hn
  | true => rfl
theorem mdraw_sound {Q : Exit → Act → World → Prop} {id : Nat} (hm : P.follows .mixedOrders = true) (hC : ∀ w0, CallsOk P C w0) (ht : TR e t a nt) (hr : HX e h w0 w) {t' : Tm} {h' : AH} (hx : aDrawM P C ops nt t h = some (t', h'))
    (hQ : ∀ e' a' w', e.le e' → TR e' t' a' nt → HX e' h' w0 w' → Q .normal a' w') : (Code.region id ops true).wp P Q a w := by
  unfold aDrawM at hx
  split at hx
  case h_2 => cases hx
  rename_i o0 rest hl0
  split at hx
  case h_2 => cases hx
  rename_i T m hmk
  rw [mrunQ_eq] at hx
  cases hst : mstatM ops T m with
  | false => rw [hst] at hx; cases hx
  | true =>
  rw [hst] at hx
  simp only [cond_true] at hx
  split at hx
  case h_2 => cases hx
  rename_i rs tf hrun
  unfold aDrawM2 at hx
  generalize hps : ((List.range ops.toList.length).filter (insAt ops T m)).map (mpr ops rs) = ps at hx
  cases hk : mkeys P T ps with
  | false => rw [hk] at hx; cases hx
  | true =>
  rw [hk] at hx
  simp only [cond_true] at hx
  split at hx
  case h_2 => cases hx
  rename_i kk hh hnew
  cases hx
  obtain ⟨rfl, rfl, hB⟩ := AH.new_some hnew
  have hkB : h.n < BIG := Nat.lt_of_succ_lt hB
  obtain ⟨a3, a4, a5⟩ := mrun_facts ht.big _ _ _ _ hrun
  have hD0 : ∃ D0, a.defers = D0 := ⟨_, rfl⟩
  obtain ⟨D0, hD0⟩ := hD0
  have hdr := ht.defers
  rw [hD0] at hdr
  have hmk0 : tget t' SB = tget t SB := by
    rcases a5 SB (by decide) with ⟨j, o', r', c2, c3, c4, c5⟩ | ⟨_, c2⟩
    · obtain ⟨_, _, _, q1⟩ := a3 j o' c2
      exact absurd (Nat.lt_of_lt_of_le (q1 SB c4) ht.small) (by decide)
    · exact c2
  have hS := mstatM_facts hst
  obtain ⟨m1, m2, m3⟩ := isMk_op hmk
  have hg0 : ops.toList[0]? = some o0 := by rw [hl0]; rfl
  have hins0 : insAt ops T m 0 = false := by
    unfold insAt
    rw [lat_eq, hg0]
    simp only
    cases hI : isIns T m o0 with
    | false => rfl
    | true =>
      obtain ⟨x, y, q1, _⟩ := isIns_op hI
      rw [m1] at q1; cases q1
  have hops : ∀ i o, ops.toList[i]? = some o → ops[i]? = some o := fun i o ho => by rw [← Array.getElem?_toList]; exact ho
  have hwb : waitsBack ops = true := by
    unfold waitsBack
    rw [List.all_eq_true]
    intro i hi
    have hi' := List.mem_range.1 hi
    have hg : ops.toList[i]? = some ops[i] := by rw [Array.getElem?_toList]; exact Array.getElem?_eq_getElem hi'
    rw [Array.getElem?_eq_getElem hi']
    simp only [Option.map_some, Option.getD_some]
    have := (hS i _ hg).1
    unfold waitsB at this
    rw [List.all_eq_true] at this
    rw [← Array.all_toList, List.all_eq_true]
    intro ed hed
    have h2 := this ed hed
    rw [Bool.or_eq_true] at h2 ⊢
    exact h2.imp (fun q => q) fun h3 => decide_eq_true (Nat.le_of_ble_eq_true h3)
  obtain ⟨kt, vt, hmt, k1, k2⟩ : ∃ kt vt, mapT2 P T = some (kt, vt) ∧ (∀ p ∈ ps, keyQ kt p.1 = true) ∧ allP (fun p q => keyNe p.1 q.1) ps = true := by
    unfold mkeys at hk
    split at hk
    · rename_i kt vt hmt
      rw [Bool.and_eq_true, List.all_eq_true] at hk
      exact ⟨kt, vt, hmt, hk.1, hk.2⟩
    · cases hk
  have hJn : ((List.range ops.toList.length).filter (insAt ops T m)).Nodup := List.nodup_range.filter _
  have hJm : ∀ i, i ∈ (List.range ops.toList.length).filter (insAt ops T m) ↔ insAt ops T m i = true := fun i => by
    rw [List.mem_filter, List.mem_range]
    refine ⟨fun h => h.2, fun h => ⟨?_, h⟩⟩
    unfold insAt at h
    rw [lat_eq] at h
    split at h
    · rename_i o ho; exact (List.getElem?_eq_some_iff.1 ho).1
    · cases h
  have hmem : ∀ i, insAt ops T m i = true → mpr ops rs i ∈ ps := fun i hi => by
    rw [← hps]; exact List.mem_map_of_mem ((hJm i).2 hi)
  have hne : ∀ i j, insAt ops T m i = true → insAt ops T m j = true → i ≠ j → keyNe (mpr ops rs i).1 (mpr ops rs j).1 = true := fun i j hi hj hij => by
    obtain ⟨pi, hpi, qi⟩ := List.getElem_of_mem ((hJm i).2 hi)
    obtain ⟨pj, hpj, qj⟩ := List.getElem_of_mem ((hJm j).2 hj)
    refine allP_get k2 pi pj _ _ (fun h => by subst h; exact hij (qi.symm.trans qj)) ?_ ?_
    · rw [← hps, List.getElem?_map, List.getElem?_eq_getElem hpi, qi]; rfl
    · rw [← hps, List.getElem?_map, List.getElem?_eq_getElem hpj, qj]; rfl
  refine wp_region_wild hm hwb (fun L a w => Down ops L ∧ ∃ (e1 : En) (js : List Nat), e.le e1 ∧ js.Nodup ∧ (∀ i, i ∈ js ↔ insAt ops T m i = true ∧ L.getD i false = true) ∧
    (L.getD 0 false = false → HX e1 h w0 w) ∧ (L.getD 0 false = true → HX e1 ⟨h.t.put h.n (some (.mp (js.map (mpr ops rs)))), h.n + 1⟩ w0 w) ∧
    (∀ s, s < SB → (∃ (j : Nat) (o : Oper) (r : DRec), ops.toList[j]? = some o ∧ rs[j]? = some r ∧ o.dst = some s ∧ L.getD j false = true ∧ VR e1 r.v (a.tmps.getD s undef)) ∨ ((∀ (j : Nat) (o : Oper), ops.toList[j]? = some o → o.dst = some s → L.getD j false = false) ∧ VR e1 (tget t s) (a.tmps.getD s undef))) ∧ a.tmps.size = nt ∧ a.defers = D0) ?_ ?_ ?_
  ·
    intro L i a w hLs hready ⟨hdown, e1, js, he1, hjn, hjm, hH0, hH1, hslots, hsz, hdf⟩
    have hi : i < ops.size := by
      unfold Region.ready at hready
      rw [List.mem_filter] at hready
      exact List.mem_range.1 hready.1
    have hg : ops.toList[i]? = some ops[i] := by rw [Array.getElem?_toList]; exact Array.getElem?_eq_getElem hi
    generalize ops[i] = o at hg
    obtain ⟨hLi, hdeps⟩ := ready_dep hLs hready (hops i o hg)
    have hbit : ∀ j, bitQ (mks ops.toList []) i j = true → L.getD j false = true := fun j hb => listed_of_bit hLs hdown i hg (fun ed h1 h2 => hdeps ed h1 h2) hb
    have hbit2 : ∀ j p', ops.toList[j]? = some p' → L.getD j false = true → bitQ (mks ops.toList []) j i = true → False := fun j p' hj hl hb => by
      have := listed_of_bit hLs hdown j hj (fun ed h1 h2 => hdown j p' hj hl ed h1 h2) hb
      rw [this] at hLi; cases hLi
    obtain ⟨r, b1, b3, b5⟩ := a3 i o hg
    have hnames : ∀ s, s < SB → hasN (onames ops o) s = true → VR e1 (tget r.t s) (a.tmps.getD s undef) := by
      intro s hsB hn
      rcases a4 i r b1 s (sb_big hsB) with ⟨j, o', r', c1, c2, c3, c4, c5⟩ | ⟨c1, c2⟩
      · rcases hslots s hsB with ⟨j2, o2, r2, d1, d2, d3, d4, d5⟩ | ⟨d1, d2⟩
        · have : j = j2 := by
            rcases ((hS j o' c2).2.2 j2 o2 d1).1 with h1 | h1
            · exact h1
            · exact absurd d3 (h1 s c4)
          subst this
          rw [c3] at d2
          cases d2
          rw [c5]
          exact d5
        · exfalso
          have h1 := d1 j o' c2 c4
          rcases ((hS i o hg).2.2 j o' c2).2 s c4 hn with h2 | ⟨_, h2⟩ | ⟨h2, _⟩
          · omega
          · rw [hbit j h2] at h1; cases h1
          · omega
      · rcases hslots s hsB with ⟨j2, o2, r2, d1, d2, d3, d4, d5⟩ | ⟨d1, d2⟩
        · exfalso
          rcases ((hS i o hg).2.2 j2 o2 d1).2 s d3 hn with h2 | ⟨h2, _⟩ | ⟨_, h2⟩
          · subst h2; rw [d4] at hLi; cases hLi
          · exact c1 j2 o2 h2 d1 d3
          · exact hbit2 j2 o2 d1 d4 h2
        · rw [c2]; exact d2
    have hev : EvR e1 (aevR (onames ops o) r.t) a := aevR_sound hnames
    have hguard : ∀ d, d ∈ guardT ops o.guard → d < SB → VR e1 (tget r.t d) (a.tmps.getD d undef) := fun d hd hB => hnames d hB (hasN_mem (List.mem_append.2 (.inl hd)))
    have hLi' : i < L.size := by rw [hLs]; exact hi
    have hgs : ∀ j, (L.setIfInBounds i true).getD j false = if j = i then true else L.getD j false := fun j => getD_set hLi'
    have fin : ∀ {e2 : En} {js' : List Nat} {w2 : World} {u : Value}, e1.le e2 → VR e2 r.v u → js'.Nodup → (∀ j, j ∈ js' ↔ insAt ops T m j = true ∧ (L.setIfInBounds i true).getD j false = true) →
        ((L.setIfInBounds i true).getD 0 false = false → HX e2 h w0 w2) → ((L.setIfInBounds i true).getD 0 false = true → HX e2 ⟨h.t.put h.n (some (.mp (js'.map (mpr ops rs)))), h.n + 1⟩ w0 w2) →
        (Down ops (L.setIfInBounds i true) ∧ ∃ (e1 : En) (js : List Nat), e.le e1 ∧ js.Nodup ∧ (∀ j, j ∈ js ↔ insAt ops T m j = true ∧ (L.setIfInBounds i true).getD j false = true) ∧
          ((L.setIfInBounds i true).getD 0 false = false → HX e1 h w0 w2) ∧ ((L.setIfInBounds i true).getD 0 false = true → HX e1 ⟨h.t.put h.n (some (.mp (js.map (mpr ops rs)))), h.n + 1⟩ w0 w2) ∧
          (∀ s, s < SB → (∃ (j : Nat) (o' : Oper) (r : DRec), ops.toList[j]? = some o' ∧ rs[j]? = some r ∧ o'.dst = some s ∧ (L.setIfInBounds i true).getD j false = true ∧ VR e1 r.v ((a.put o.dst u).tmps.getD s undef)) ∨ ((∀ (j : Nat) (o' : Oper), ops.toList[j]? = some o' → o'.dst = some s → (L.setIfInBounds i true).getD j false = false) ∧ VR e1 (tget t s) ((a.put o.dst u).tmps.getD s undef))) ∧ (a.put o.dst u).tmps.size = nt ∧ (a.put o.dst u).defers = D0) := by
      intro e2 js' w2 u he2 hvu hn' hm' hh0 hh1
      refine ⟨?_, e2, js', he1.trans he2, hn', hm', hh0, hh1, fun s hsB => ?_, by rw [put_size]; exact hsz, by rw [put_defers]; exact hdf⟩
      · intro j o' hj hl ed hed hb
        rw [hgs]
        split
        · rfl
        · rw [hgs] at hl
          split at hl
          · rename_i hji
            subst hji
            rw [hg] at hj
            cases hj
            exact hdeps ed hed hb
          · exact hdown j o' hj hl ed hed hb
      · have hpg := put_getD (a := a) (d := o.dst) (u := u) (s := s) (fun x hx => Nat.lt_of_lt_of_eq (b5 x hx) hsz.symm)
        by_cases hds : o.dst = some s
        · rw [if_pos hds] at hpg
          refine .inl ⟨i, o, r, hg, b1, hds, by rw [hgs, if_pos rfl], ?_⟩
          rw [hpg]
          exact hvu
        · rw [if_neg hds] at hpg
          rw [hpg]
          rcases hslots s hsB with ⟨j2, o2, r2, d1, d2, d3, d4, d5⟩ | ⟨d1, d2⟩
          · exact .inl ⟨j2, o2, r2, d1, d2, d3, by rw [hgs, d4]; simp, d5.mono he2⟩
          · refine .inr ⟨fun j o' hj hd => ?_, d2.mono he2⟩
            rw [hgs]
            have hne2 : j ≠ i := fun h => by subst h; rw [hg] at hj; cases hj; exact hds hd
            rw [if_neg hne2]
            exact d1 j o' hj hd
    by_cases hi0 : i = 0
    ·
      subst hi0
      rw [hg0] at hg
      cases hg
      have hjs : js = [] := by
        rcases List.eq_nil_or_concat js with h1 | ⟨l, x, h1⟩
        · exact h1
        · exfalso
          have hx := (hjm x).1 (by rw [h1]; simp)
          have hx1 := hx.1
          unfold insAt at hx1
          rw [lat_eq] at hx1
          split at hx1
          · rename_i o' ho'
            have hx0 : x ≠ 0 := fun h => by subst h; rw [hins0] at hx; exact absurd hx.1 (by simp)
            rcases (hS x o' ho').2.1 hx0 with ⟨_, q2⟩ | ⟨q1, _⟩
            · exact hbit2 x o' ho' hx.2 q2
            · rw [q1] at hx1; cases hx1
          · cases hx1
      subst hjs
      unfold mstep at b3
      rw [m2] at b3
      have haw : awant ops r.t none = some true := rfl
      rw [haw] at b3
      simp only at b3
      have hme : mEval P C (onames ops o0) h.n o0.op r.t = some (.map (some h.n)) := by rw [m1]; rfl
      rw [hme] at b3
      injection b3 with b3
      simp only [Prod.mk.injEq] at b3
      refine K_do hg0 (awant_sound (t := r.t) hguard (by rw [m2]; rfl)) fun K hK => ?_
      have hv : aop P (aevR (onames ops o0) r.t) o0.op h = some (.eff (.map (some h.n)) ⟨h.t.put h.n (some (.mp [])), h.n + 1⟩) := by
        rw [m1]
        show oMap h = _
        unfold oMap
        rw [new_of hnew (.mp [])]
      obtain ⟨u, w', e', q1, q2, q3, q4⟩ := aop_sound (hC w0).keyed hev (hH0 hLi) hv
      refine wp_run q2 (hK _ _ (fin (js' := []) q1 (by rw [← b3.2]; exact q3) List.nodup_nil (fun j => ?_) (fun h0 => ?_) (fun _ => q4)))
      · refine ⟨fun h => by simp at h, fun ⟨h1, h2⟩ => ?_⟩
        rw [hgs] at h2
        split at h2
        · rename_i hj0; subst hj0; rw [hins0] at h1; cases h1
        · exact (hjm j).2 ⟨h1, h2⟩
      · rw [hgs, if_pos rfl] at h0; cases h0
    have hL0 : (L.setIfInBounds i true).getD 0 false = L.getD 0 false := by rw [hgs, if_neg (fun h => hi0 h.symm)]
    rcases (hS i o hg).2.1 hi0 with ⟨hI, hb0⟩ | ⟨hI, hq⟩
    ·
      obtain ⟨x, y, i1, i2, i3⟩ := isIns_op hI
      have hinsi : insAt ops T m i = true := by unfold insAt; rw [lat_eq, hg]; exact hI
      unfold mstep at b3
      rw [i2] at b3
      have haw : awant ops r.t none = some true := rfl
      rw [haw] at b3
      simp only at b3
      rw [i1] at b3
      unfold mEval at b3
      simp only at b3
      split at b3
      rotate_left
      · cases b3
      rename_i vv hvv
      split at hvv
      rotate_left
      · cases hvv
      rename_i rr kv yv hme hke hye
      cases hb : Nat.beq rr h.n with
      | false => rw [hb] at hvv; cases hvv
      | true =>
      rw [hb] at hvv
      cases hvv
      have hrr := Nat.eq_of_beq_eq_true hb
      subst hrr
      injection b3 with b3
      simp only [Prod.mk.injEq] at b3
      have hHH := hH1 (hbit 0 hb0)
      have hpr : mpr ops rs i = (kv, yv) := by
        unfold mpr
        rw [lat_eq, lat_eq, hg, b1]
        simp only [i1, hke, hye, oget]
      have hget : (h.t.put h.n (some (.mp (js.map (mpr ops rs))))).get h.n = some (.mp (js.map (mpr ops rs))) := by rw [Tr.get_put _ _ hkB hkB, if_pos rfl]
      have hv : aop P (aevR (onames ops o) r.t) o.op ⟨h.t.put h.n (some (.mp (js.map (mpr ops rs)))), h.n + 1⟩ = some (.eff undef ⟨(h.t.put h.n (some (.mp (js.map (mpr ops rs))))).put h.n (some (.mp (js.map (mpr ops rs) ++ [(kv, yv)]))), h.n + 1⟩) := by
        rw [i1]
        show oInsert P T (aevR (onames ops o) r.t (.tmp m)) (aevR (onames ops o) r.t x) (aevR (onames ops o) r.t y) _ = _
        rw [hme, hke, hye]
        unfold oInsert
        simp only [hget, hmt]
        have hc : (keyQ kt kv && (js.map (mpr ops rs)).all (fun p => keyQ kt p.1) && (js.map (mpr ops rs)).all (fun p => keyNe p.1 kv)) = true := by
          rw [Bool.and_eq_true, Bool.and_eq_true, List.all_eq_true, List.all_eq_true]
          refine ⟨⟨?_, fun p hp => ?_⟩, fun p hp => ?_⟩
          · have := k1 _ (hmem i hinsi)
            rw [hpr] at this
            exact this
          · obtain ⟨j, hj, rfl⟩ := List.mem_map.1 hp
            exact k1 _ (hmem j ((hjm j).1 hj).1)
          · obtain ⟨j, hj, rfl⟩ := List.mem_map.1 hp
            have := hne j i ((hjm j).1 hj).1 hinsi (fun h => by subst h; have := ((hjm j).1 hj).2; rw [hLi] at this; cases this)
            rw [hpr] at this
            exact this
        rw [hc]
        rfl
      refine K_do hg (awant_sound (t := r.t) hguard (by rw [i2]; rfl)) fun K hK => ?_
      obtain ⟨u, w', e', q1, q2, q3, q4⟩ := aop_sound (hC w0).keyed hev hHH hv
      refine wp_run q2 (hK _ _ (fin (js' := js ++ [i]) q1 (by rw [← b3.2]; exact q3) ?_ (fun j => ?_) (fun h0 => ?_) (fun _ => ?_)))
      · refine List.nodup_append.2 ⟨hjn, by simp, fun p hp q hq hpq => ?_⟩
        rw [List.mem_singleton] at hq
        subst hq hpq
        have := ((hjm p).1 hp).2
        rw [hLi] at this; cases this
      · rw [List.mem_append, List.mem_singleton, hjm, hgs]
        by_cases hji : j = i
        · subst hji; simp [hinsi]
        · simp [hji]
      · rw [hL0, hbit 0 hb0] at h0; cases h0
      · refine q4.same rfl fun k hk => ?_
        simp only [Tr.get_put _ _ hkB hk, List.map_append, List.map_cons, List.map_nil, hpr]
        split <;> rfl
    ·
      have hinsi : insAt ops T m i = false := by unfold insAt; rw [lat_eq, hg]; exact hI
      have hjm' : ∀ j, j ∈ js ↔ insAt ops T m j = true ∧ (L.setIfInBounds i true).getD j false = true := fun j => by
        rw [hjm, hgs]
        by_cases hji : j = i
        · subst hji; simp [hinsi]
        · simp [hji]
      obtain ⟨H, hHH, hback⟩ : ∃ H, HX e1 H w0 w ∧ ∀ e2 w2, HX e2 H w0 w2 → ((L.setIfInBounds i true).getD 0 false = false → HX e2 h w0 w2) ∧ ((L.setIfInBounds i true).getD 0 false = true → HX e2 ⟨h.t.put h.n (some (.mp (js.map (mpr ops rs)))), h.n + 1⟩ w0 w2) := by
        rw [hL0]
        cases hz : L.getD 0 false with
        | false => exact ⟨h, hH0 hz, fun e2 w2 h2 => ⟨fun _ => h2, fun h => by cases h⟩⟩
        | true => exact ⟨_, hH1 hz, fun e2 w2 h2 => ⟨fun h => (by cases h), fun _ => h2⟩⟩
      unfold mstep at b3
      split at b3
      ·
        rename_i hw
        injection b3 with b3
        simp only [Prod.mk.injEq] at b3
        refine wpOp_pass hg (awant_sound hguard hw) ?_
        have hb2 := hback e1 w hHH
        exact fin (En.le.refl e1) (by rw [← b3.2]; exact .undef) hjn hjm' hb2.1 hb2.2
      · rename_i hw
        split at b3
        rotate_left
        · cases b3
        rename_i v hme
        injection b3 with b3
        simp only [Prod.mk.injEq] at b3
        have hwant := awant_sound hguard hw
        refine K_do hg hwant fun K hK => ?_
        unfold mEval at hme
        split at hme
        · rename_i hop; rw [hop] at hq; cases hq
        · rename_i hop; rw [hop] at hq; cases hq
        rw [hq] at hme
        simp only [cond_true] at hme
        split at hme
        · rename_i v2 hv
          cases hp : isPureC o.op with
          | true => rw [hp] at hme; cases hme
          | false =>
            rw [hp] at hme
            cases hme
            rw [quietO_indep hq _ H] at hv
            obtain ⟨u, q1, q2⟩ := aop_sound (hC w0).keyed hev hHH hv
            have hb2 := hback e1 w hHH
            exact wp_run (.inl q1) (hK _ _ (fin (En.le.refl e1) (by rw [← b3.2]; exact q2) hjn hjm' hb2.1 hb2.2))
        · rename_i f hv
          cases hp : isPureC o.op with
          | false => rw [hp] at hme; cases hme
          | true =>
            rw [hp] at hme
            simp only [cond_true] at hme
            split at hme
            rotate_left
            · cases hme
            rename_i v2 h1 hcall
            cases hpl : plainT v2 with
            | false => rw [hpl] at hme; cases hme
            | true =>
              rw [hpl] at hme
              cases hme
              rw [quietO_indep hq _ H] at hv
              obtain ⟨args', q1, q2⟩ := aop_sound (hC w0).keyed hev hHH hv
              cases q2
              unfold Oper.wp
              rw [q1]
              show Calls P f (List.toArray []) w _
              refine ((hC (Base.all w)).ok f [] ⟨.nil, 0⟩ v h1 hcall (fun _ => none) w [] .nil (HX.nil (Base.all w))).mono ?_
              rintro z w' ⟨u, e', rfl, z1, z2, z3⟩
              have hb2 := hback e1 w' (hHH.rest z3)
              exact hK _ _ (fin (En.le.refl e1) (by rw [← b3.2]; exact plainT_rv hpl z2) hjn hjm' hb2.1 hb2.2)
        · cases hme
      · cases b3
  ·
    intro L a w hall ⟨hdown, e1, js, he1, hjn, hjm, hH0, hH1, hslots, hsz, hdf⟩
    have hjs : ∀ {j : Nat} {o' : Oper}, ops.toList[j]? = some o' → L.getD j false = true := fun hj => hall _ (by have := (List.getElem?_eq_some_iff.1 hj).1; rw [Array.length_toList] at this; exact this)
    have hperm : js.Perm ((List.range ops.toList.length).filter (insAt ops T m)) := by
      refine (List.perm_ext_iff_of_nodup hjn hJn).2 fun j => ?_
      rw [hjm, hJm]
      refine ⟨fun h => h.1, fun h => ⟨h, ?_⟩⟩
      unfold insAt at h
      rw [lat_eq] at h
      split at h
      · rename_i o' ho'; exact hjs ho'
      · cases h
    have hHf := (hH1 (hjs hg0)).perm hkB (hperm.map (mpr ops rs))
    rw [hps] at hHf
    refine hQ e1 a w he1 ⟨fun s hsB => ?_, hsz, ht.small, by rw [hdf, hmk0]; exact hdr.mono he1⟩ hHf
    rcases a5 s (sb_big hsB) with ⟨j, o', r', c2, c3, c4, c5⟩ | ⟨c1, c2⟩
    · rcases hslots s hsB with ⟨j2, o2, r2, d1, d2, d3, d4, d5⟩ | ⟨d1, d2⟩
      · have : j = j2 := by
          rcases ((hS j o' c2).2.2 j2 o2 d1).1 with h1 | h1
          · exact h1
          · exact absurd d3 (h1 s c4)
        subst this
        rw [c3] at d2
        cases d2
        rw [c5]
        exact d5
      · have := d1 j o' c2 c4
        rw [hjs c2] at this
        cases this
    · rcases hslots s hsB with ⟨j2, o2, r2, d1, d2, d3, d4, d5⟩ | ⟨d1, d2⟩
      · exact absurd d3 (c1 j2 o2 d1)
      · rw [c2]; exact d2
  ·
    have h0 : ∀ j, (Array.replicate ops.size false).getD j false = false := fun j => by
      by_cases hj : j < ops.size <;> simp [hj]
    refine ⟨fun j o' _ hl => (by rw [h0] at hl; cases hl), e, [], En.le.refl e, List.nodup_nil, fun j => ?_, fun _ => hr.drawn, fun h1 => (by rw [h0] at h1; cases h1), fun s hsB => .inr ⟨fun j o' _ _ => h0 j, ht.slots s hsB⟩, ht.size, hD0⟩
    rw [h0]
    simp
theorem draw_sound {Q : Exit → Act → World → Prop} {id : Nat} (hm : P.follows .mixedOrders = true) (hC : ∀ w0, CallsOk P C w0) (ht : TR e t a nt) (hr : HX e h w0 w) {t' : Tm} {h' : AH} (hx : aDraw P C ops nt t h = some (t', h'))
    (hQ : ∀ e' a' w', e.le e' → TR e' t' a' nt → HX e' h' w0 w' → Q .normal a' w') : (Code.region id ops true).wp P Q a w := by
  cases hst : dstat ops with
  | true => exact draw_sound1 hst hm hC ht hr hx hQ
  | false =>
    unfold aDraw at hx
    rw [hst] at hx
    exact mdraw_sound hm hC ht hr hx hQ
end
end Go.Proofs.YtkpbhdhkdonghaaGreat
