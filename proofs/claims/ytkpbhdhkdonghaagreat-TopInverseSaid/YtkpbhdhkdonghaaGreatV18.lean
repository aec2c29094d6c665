/-
  Part 18 of the proof.
-/
import Derived.Test.YtkpbhdhkdonghaaGreatV12
import Derived.Test.YtkpbhdhkdonghaaGreatV17
set_option linter.all false
namespace Go.Proofs.YtkpbhdhkdonghaaGreat
open Go Go.RowKit
theorem WK_sp1 {pa : Value} {la ln mb mn ix ds : Int} {less : List Int} {row told st : Int} : (WK pa la ln mb mn ix ds less row told st).extract 1 (1 + (SP la ln).size) = SP la ln := by
  show ([pa] ++ ([Value.int .i64 la, Value.int .i64 ln] ++ ([Value.int .i64 mb, Value.int .i64 mn, Value.int .i64 ix, Value.int .i64 ds] ++ (vs .i64 less ++ [Value.int .i64 row, Value.int .i64 told, Value.int .i64 st])))).toArray.extract 1 (1 + 2) = _
  exact ext3 rfl rfl
theorem WK_sp3 {pa : Value} {la ln mb mn ix ds : Int} {less : List Int} {row told st : Int} : (WK pa la ln mb mn ix ds less row told st).extract 3 (3 + (SP mb mn).size) = SP mb mn := by
  show ([pa, Value.int .i64 la, Value.int .i64 ln] ++ ([Value.int .i64 mb, Value.int .i64 mn] ++ ([Value.int .i64 ix, Value.int .i64 ds] ++ (vs .i64 less ++ [Value.int .i64 row, Value.int .i64 told, Value.int .i64 st])))).toArray.extract 3 (3 + 2) = _
  exact ext3 rfl rfl
theorem WK_fit1 {pa : Value} {la ln mb mn ix ds : Int} {less : List Int} {row told st : Int} (h : less.length = 256) : 1 + (SP la ln).size ≤ (WK pa la ln mb mn ix ds less row told st).size := by rw [WK_size h]; show 1 + 2 ≤ 266; omega
theorem WK_fit3 {pa : Value} {la ln mb mn ix ds : Int} {less : List Int} {row told st : Int} (h : less.length = 256) : 3 + (SP mb mn).size ≤ (WK pa la ln mb mn ix ds less row told st).size := by rw [WK_size h]; show 3 + 2 ≤ 266; omega
structure WkOk (l : List Int) (live : Int) (a n b m d index : Nat) : Prop where
  rk : RkOk live a n b m d
  sm : Sampled l a n b d
  lim : live ≤ l.length
  big : l.length ≤ 1048576
  i1 : 1 ≤ index
  i2 : index ≤ n
abbrev WKof (ga : Nat) (l : List Int) (a n b m d index : Nat) (row told st : Int) : Array Value := WK (.pointer (some ⟨ga, 0, none⟩)) a n b m index d (tab 256 (lsn (colOf l a n))) row told st
set_option maxRecDepth 100000 in
set_option maxHeartbeats 1000000 in
theorem wbehind_end (gw ga gd a n b m d index : Nat) (l : List Int) (row told st live peak : Int) (r : Nat) (w0 w : World) (rs : List (Nat × Array Value)) (ss : List Sl) (hm : Own w0 w ((gw, WKof ga l a n b m d index row told st) :: (ga, AR (.slice (some ⟨gd, 0, none⟩) l.length l.length) live peak) :: (gd, B l) :: rs) ss) (h : WkOk l live a n b m d index) (hr : r ≤ n) (s0 : 0 ≤ st) (s1 : st ≤ 1000000000000000) (he : r = index) : Calls Tryz.prog 74 #[.pointer (some ⟨gw, 0, none⟩), .int .i64 r] w fun e w' => (e = .returned (.tuple #[.int .i64 0, .int .u8 0, .bool false])) ∧ Own w0 w' ((gw, WKof ga l a n b m d index row told st) :: (ga, AR (.slice (some ⟨gd, 0, none⟩) l.length l.length) live peak) :: (gd, B l) :: rs) ss := by
  obtain ⟨hk, hS, lim, big, i1, i2⟩ := h
  have hn2 := hk.n2
  subst he
  clear hk hS lim big i1 i2 hr s0 s1
  rw [WKof] at hm
  go_enter Tryz.func74, Tryz.ntmps74
  go_wp2_with (first
      | (with_reducible refine gLd (t := 3) ?_; (refine wpList_run rfl (ld 0 hm rfl rfl rfl (ot rfl) WK_at_ix) ?_)))
  refine bodyPost_ret (results_tmp3 rfl _ _ _) rfl ⟨rfl, ?_⟩
  exact hm
set_option maxRecDepth 100000 in
set_option maxHeartbeats 1000000 in
theorem wbehind_lo (gw ga gd a n b m d index : Nat) (l : List Int) (row told st live peak : Int) (r : Nat) (w0 w : World) (rs : List (Nat × Array Value)) (ss : List Sl) (hm : Own w0 w ((gw, WKof ga l a n b m d index row told st) :: (ga, AR (.slice (some ⟨gd, 0, none⟩) l.length l.length) live peak) :: (gd, B l) :: rs) ss) (h : WkOk l live a n b m d index) (hr : r ≤ n) (s0 : 0 ≤ st) (s1 : st ≤ 1000000000000000) (p : Nat) (hp : p = r) (hlt : r < index) : Calls Tryz.prog 74 #[.pointer (some ⟨gw, 0, none⟩), .int .i64 r] w fun e w' => (e = .returned (.tuple #[.int .i64 (aft (colOf l a n) p), .int .u8 (gi (colOf l a n) p), .bool true])) ∧ Own w0 w' ((gw, WKof ga l a n b m d index row told (st + (1 + ((p % d : Nat) : Int)))) :: (ga, AR (.slice (some ⟨gd, 0, none⟩) l.length l.length) live peak) :: (gd, B l) :: rs) ss := by
  obtain ⟨hk, hS, lim, big, i1, i2⟩ := h
  have hn2 := hk.n2
  have hal : a + n ≤ l.length := by have := hk.ap; have := hk.fit; omega
  have hal2 : (a : Int) + n ≤ live := by have := hk.ap; have := hk.fit; omega
  have hcl : (colOf l a n).length = n := len_col hal
  have hcb : Bytes (colOf l a n) := col_bytes hS.byt
  have hs := hcb (gi (colOf l a n) p) (by rw [gi_eq _ p (by omega)]; exact List.getElem_mem _)
  obtain ⟨c, hc⟩ := Int.eq_ofNat_of_zero_le hs.1
  have hc1 : c < 256 := by omega
  have CB : Hid (∀ W, RowIs W ga (AR (.slice (some ⟨gd, 0, none⟩) l.length l.length) live peak) → RowIs W gd (B l) → Calls Tryz.prog 116 #[.pointer (some ⟨ga, 0, none⟩), .agg (SP a n), .int .i64 p] W fun e w' => (e = .returned (.tuple #[.int .u8 c, .bool true])) ∧ Below W.heap.size W w') := Lib.hid fun W h3 h4 => by have := byte_ok ga gd a n p l live peak W h3 h4 hal2 lim big (by omega); rwa [← gi_col hal (by omega), hc] at this
  have CR : Hid (∀ W, RowIs W ga (AR (.slice (some ⟨gd, 0, none⟩) l.length l.length) live peak) → RowIs W gd (B l) → Calls Tryz.prog 70 #[.pointer (some ⟨ga, 0, none⟩), .agg (SP a n), .agg (SP b m), .int .i64 d, .int .u8 c, .int .i64 p] W fun e w' => (e = .returned (.tuple #[.int .i64 (eqn ((colOf l a n).take p) c), .int .i64 ((p % d : Nat) : Int), .bool true])) ∧ Below W.heap.size W w') := Lib.hid fun W h3 h4 => rank_any ga gd a n b m d c p l live peak W h3 h4 hS hk lim big hc1 (by omega)
  have HAF : Hid (aft (colOf l a n) p = 1 + lsn (colOf l a n) c + eqn ((colOf l a n).take p) c) := Lib.hid (by rw [aft, hc, Int.toNat_natCast])
  have b1 := lsn_bound (colOf l a n) c
  have b2 := eqn_bound ((colOf l a n).take p) c
  have b3 := List.length_take_le' p (colOf l a n)
  have b4 := Nat.mod_lt p (show 0 < d by have := hk.d1; omega)
  have b5 := hk.d2
  have w1 : IntKind.i64.wrap (1 + lsn (colOf l a n) c) = 1 + lsn (colOf l a n) c := IntWalk.i64_in _ (by omega)
  have w2 : IntKind.i64.wrap (1 + lsn (colOf l a n) c + eqn ((colOf l a n).take p) c) = 1 + lsn (colOf l a n) c + eqn ((colOf l a n).take p) c := IntWalk.i64_in _ (by omega)
  have HAT := Lib.hid (at_tab .i64 (lsn (colOf l a n)) hc1)
  have hll : (tab 256 (lsn (colOf l a n))).length = 256 := len_tab _ _
  have HLL := Lib.hid hll
  rw [hc, HAF.out]
  clear hcb hs hc hcl hll i1 b1 b2 b3 HAF
  subst hp
  have q1 : ((p : Int) == index) = false := by simp; omega
  have q2 : decide ((index : Int) < p) = false := decide_eq_false (by omega)
  have q3 : decide (index < p) = false := decide_eq_false (by omega)
  have HATW : Hid (∀ (row told st : Int), (WK (.pointer (some ⟨ga, 0, none⟩)) a n b m index d (tab 256 (lsn (colOf l a n))) row told st)[7 + c]? = some (.int .i64 (lsn (colOf l a n) c))) := Lib.hid fun row told st => by rw [WK_at_less (by rw [len_tab]) c hc1, gi_tab _ hc1]
  obtain ⟨q, hq⟩ : ∃ q : Nat, q = p % d := ⟨_, rfl⟩
  rw [← hq] at CR b4 ⊢
  have w3 : IntKind.i64.wrap (1 + (q : Int)) = 1 + (q : Int) := IntWalk.i64_in _ (by omega)
  have w4 : IntKind.i64.wrap (st + (1 + (q : Int))) = st + (1 + (q : Int)) := IntWalk.i64_in _ (by omega)
  rw [WKof] at hm ⊢
  clear hS lim hq
  generalize hZ1 : lsn (colOf l a n) c = z1 at *
  generalize eqn ((colOf l a n).take p) c = z2 at *
  generalize tab 256 (lsn (colOf l a n)) = less at *
  go_enter Tryz.func74, Tryz.ntmps74
  go_upto_region 6 with (first
      | (with_reducible refine gLd (t := 3) ?_; (refine wpList_run rfl (ld 0 hm rfl rfl rfl (ot rfl) (WK_at_ix)) ?_)))
  refine wp_region_KO hm 9 (.rds [(0, false), (1, false), (2, false), (3, true), (4, false), (5, false), (6, false), (7, true), (8, false)] (.brk 9 15 (.rds [(10, false), (11, false), (12, false), (13, false), (14, false)] .done))) rfl (by kernel_rfl) rfl (by kernel_rfl) (fun _ _ d _ _ h => by cases d <;> exact h) ?_
  clear hm
  intro w hm
  simp only [KT.rds]
  (refine K_p rfl rfl (fun W => by go_simp; rfl) ?_)
  try simp only [Act.put, List.setIfInBounds_toArray, List.set_cons_zero, List.set_cons_succ]
  (refine K_p rfl rfl (fun W => by go_simp; rfl) ?_)
  try simp only [Act.put, List.setIfInBounds_toArray, List.set_cons_zero, List.set_cons_succ]
  (refine K_p rfl rfl (fun W => by go_simp; rfl) ?_)
  try simp only [Act.put, List.setIfInBounds_toArray, List.set_cons_zero, List.set_cons_succ]
  (refine K_m rfl rfl (fun W hm => ld 0 hm rfl rfl rfl (ot rfl) (WK_at_pa)) ?_)
  try simp only [Act.put, List.setIfInBounds_toArray, List.set_cons_zero, List.set_cons_succ]
  (refine K_p rfl rfl (fun W => by go_simp; rfl) ?_)
  try simp only [Act.put, List.setIfInBounds_toArray, List.set_cons_zero, List.set_cons_succ]
  (refine K_p rfl rfl (fun W => by go_simp; rfl) ?_)
  try simp only [Act.put, List.setIfInBounds_toArray, List.set_cons_zero, List.set_cons_succ]
  (refine K_p rfl rfl (fun W => by go_simp; rfl) ?_)
  try simp only [Act.put, List.setIfInBounds_toArray, List.set_cons_zero, List.set_cons_succ]
  (refine K_m rfl rfl (fun W hm => ldp 0 hm rfl rfl rfl WK_sp1 (aggSP _ _) (WK_fit1 HLL.out)) ?_)
  try simp only [Act.put, List.setIfInBounds_toArray, List.set_cons_zero, List.set_cons_succ]
  (refine K_p rfl rfl (fun W => by go_simp; rfl) ?_)
  try simp only [Act.put, List.setIfInBounds_toArray, List.set_cons_zero, List.set_cons_succ]
  refine brk_do rfl rfl (fun K hK => ?_)
  go_simp
  refine (CB.out _ (hm.row 1 rfl) (hm.row 2 rfl)).mono ?_
  rintro e w1 ⟨rfl, hb⟩
  replace hm := hm.call hb
  clear hb
  refine hK _ _ ⟨fun W => Own _ W _ _, hm, ?_⟩
  clear hK K
  try simp only [Act.put, List.setIfInBounds_toArray, List.set_cons_zero, List.set_cons_succ]
  (refine K_p rfl rfl (fun W => by go_simp; rfl) ?_)
  try simp only [Act.put, List.setIfInBounds_toArray, List.set_cons_zero, List.set_cons_succ]
  (refine K_p rfl rfl (fun W => by go_simp; rfl) ?_)
  try simp only [Act.put, List.setIfInBounds_toArray, List.set_cons_zero, List.set_cons_succ]
  (refine K_p rfl rfl (fun W => by go_simp; rfl) ?_)
  try simp only [Act.put, List.setIfInBounds_toArray, List.set_cons_zero, List.set_cons_succ]
  (refine K_p rfl rfl (fun W => by go_simp; rfl) ?_)
  try simp only [Act.put, List.setIfInBounds_toArray, List.set_cons_zero, List.set_cons_succ]
  (refine K_p rfl rfl (fun W => by go_simp; rfl) ?_)
  try simp only [Act.put, List.setIfInBounds_toArray, List.set_cons_zero, List.set_cons_succ]
  refine K_done ?_
  go_simp
  go_upto_region 7 with fail
  refine wp_region_KO hm 18 (.rds [(0, false), (1, false), (2, false), (3, true), (4, false), (5, false), (6, false), (7, true), (8, false), (9, false), (10, false), (11, true), (12, false), (13, false), (14, false), (15, true), (16, false), (17, false)] (.brk 18 26 (.rds [(19, false), (20, false), (21, false), (22, false), (23, false), (24, false), (25, false)] .done))) rfl (by kernel_rfl) rfl (by kernel_rfl) (fun _ _ d _ _ h => by cases d <;> exact h) ?_
  clear hm
  intro w hm
  simp only [KT.rds]
  (refine K_p rfl rfl (fun W => by go_simp; rfl) ?_)
  try simp only [Act.put, List.setIfInBounds_toArray, List.set_cons_zero, List.set_cons_succ]
  (refine K_p rfl rfl (fun W => by go_simp; rfl) ?_)
  try simp only [Act.put, List.setIfInBounds_toArray, List.set_cons_zero, List.set_cons_succ]
  (refine K_p rfl rfl (fun W => by go_simp; rfl) ?_)
  try simp only [Act.put, List.setIfInBounds_toArray, List.set_cons_zero, List.set_cons_succ]
  (refine K_m rfl rfl (fun W hm => ld 0 hm rfl rfl rfl (ot rfl) (WK_at_pa)) ?_)
  try simp only [Act.put, List.setIfInBounds_toArray, List.set_cons_zero, List.set_cons_succ]
  (refine K_p rfl rfl (fun W => by go_simp; rfl) ?_)
  try simp only [Act.put, List.setIfInBounds_toArray, List.set_cons_zero, List.set_cons_succ]
  (refine K_p rfl rfl (fun W => by go_simp; rfl) ?_)
  try simp only [Act.put, List.setIfInBounds_toArray, List.set_cons_zero, List.set_cons_succ]
  (refine K_p rfl rfl (fun W => by go_simp; rfl) ?_)
  try simp only [Act.put, List.setIfInBounds_toArray, List.set_cons_zero, List.set_cons_succ]
  (refine K_m rfl rfl (fun W hm => ldp 0 hm rfl rfl rfl WK_sp1 (aggSP _ _) (WK_fit1 HLL.out)) ?_)
  try simp only [Act.put, List.setIfInBounds_toArray, List.set_cons_zero, List.set_cons_succ]
  (refine K_p rfl rfl (fun W => by go_simp; rfl) ?_)
  try simp only [Act.put, List.setIfInBounds_toArray, List.set_cons_zero, List.set_cons_succ]
  (refine K_p rfl rfl (fun W => by go_simp; rfl) ?_)
  try simp only [Act.put, List.setIfInBounds_toArray, List.set_cons_zero, List.set_cons_succ]
  (refine K_p rfl rfl (fun W => by go_simp; rfl) ?_)
  try simp only [Act.put, List.setIfInBounds_toArray, List.set_cons_zero, List.set_cons_succ]
  (refine K_m rfl rfl (fun W hm => ldp 0 hm rfl rfl rfl WK_sp3 (aggSP _ _) (WK_fit3 HLL.out)) ?_)
  try simp only [Act.put, List.setIfInBounds_toArray, List.set_cons_zero, List.set_cons_succ]
  (refine K_p rfl rfl (fun W => by go_simp; rfl) ?_)
  try simp only [Act.put, List.setIfInBounds_toArray, List.set_cons_zero, List.set_cons_succ]
  (refine K_p rfl rfl (fun W => by go_simp; rfl) ?_)
  try simp only [Act.put, List.setIfInBounds_toArray, List.set_cons_zero, List.set_cons_succ]
  (refine K_p rfl rfl (fun W => by go_simp; rfl) ?_)
  try simp only [Act.put, List.setIfInBounds_toArray, List.set_cons_zero, List.set_cons_succ]
  (refine K_m rfl rfl (fun W hm => ld 0 hm rfl rfl rfl (ot rfl) (WK_at_ds)) ?_)
  try simp only [Act.put, List.setIfInBounds_toArray, List.set_cons_zero, List.set_cons_succ]
  (refine K_p rfl rfl (fun W => by go_simp; rfl) ?_)
  try simp only [Act.put, List.setIfInBounds_toArray, List.set_cons_zero, List.set_cons_succ]
  (refine K_p rfl rfl (fun W => by go_simp; rfl) ?_)
  try simp only [Act.put, List.setIfInBounds_toArray, List.set_cons_zero, List.set_cons_succ]
  refine brk_do rfl rfl (fun K hK => ?_)
  go_simp
  refine (CR.out _ (hm.row 1 rfl) (hm.row 2 rfl)).mono ?_
  rintro e w1 ⟨rfl, hb⟩
  replace hm := hm.call hb
  clear hb
  refine hK _ _ ⟨fun W => Own _ W _ _, hm, ?_⟩
  clear hK K
  try simp only [Act.put, List.setIfInBounds_toArray, List.set_cons_zero, List.set_cons_succ]
  (refine K_p rfl rfl (fun W => by go_simp; rfl) ?_)
  try simp only [Act.put, List.setIfInBounds_toArray, List.set_cons_zero, List.set_cons_succ]
  (refine K_p rfl rfl (fun W => by go_simp; rfl) ?_)
  try simp only [Act.put, List.setIfInBounds_toArray, List.set_cons_zero, List.set_cons_succ]
  (refine K_p rfl rfl (fun W => by go_simp; rfl) ?_)
  try simp only [Act.put, List.setIfInBounds_toArray, List.set_cons_zero, List.set_cons_succ]
  (refine K_p rfl rfl (fun W => by go_simp; rfl) ?_)
  try simp only [Act.put, List.setIfInBounds_toArray, List.set_cons_zero, List.set_cons_succ]
  (refine K_p rfl rfl (fun W => by go_simp; rfl) ?_)
  try simp only [Act.put, List.setIfInBounds_toArray, List.set_cons_zero, List.set_cons_succ]
  (refine K_p rfl rfl (fun W => by go_simp; rfl) ?_)
  try simp only [Act.put, List.setIfInBounds_toArray, List.set_cons_zero, List.set_cons_succ]
  (refine K_p rfl rfl (fun W => by go_simp; rfl) ?_)
  try simp only [Act.put, List.setIfInBounds_toArray, List.set_cons_zero, List.set_cons_succ]
  refine K_done ?_
  go_simp
  go_wp2_with (first
      | (with_reducible refine gLd (t := 3) ?_; (refine wpList_run rfl (ld 0 hm rfl rfl rfl (ot rfl) (by first | exact (WK_at_st HLL.out) | exact (HATW.out _ _ _))) ?_))
      | (with_reducible refine gSt (t := 3) ?_; (refine list_eff rfl (eff_cell 0 hm rfl rfl (ev_tmp rfl) rfl (ot rfl) (WK_lt_st HLL.out) rfl rfl (WK_put_st HLL.out _) ?_); clear hm; intro w hm; try simp only [puts, List.cons_append, List.nil_append, List.set] at hm)))
  refine bodyPost_ret (results_tmp3 rfl _ _ _) rfl ⟨rfl, hm⟩
set_option maxRecDepth 100000 in
set_option maxHeartbeats 1000000 in
theorem wbehind_hi (gw ga gd a n b m d index : Nat) (l : List Int) (row told st live peak : Int) (r : Nat) (w0 w : World) (rs : List (Nat × Array Value)) (ss : List Sl) (hm : Own w0 w ((gw, WKof ga l a n b m d index row told st) :: (ga, AR (.slice (some ⟨gd, 0, none⟩) l.length l.length) live peak) :: (gd, B l) :: rs) ss) (h : WkOk l live a n b m d index) (hr : r ≤ n) (s0 : 0 ≤ st) (s1 : st ≤ 1000000000000000) (p : Nat) (hp : r = p + 1) (hlt : index < r) : Calls Tryz.prog 74 #[.pointer (some ⟨gw, 0, none⟩), .int .i64 r] w fun e w' => (e = .returned (.tuple #[.int .i64 (aft (colOf l a n) p), .int .u8 (gi (colOf l a n) p), .bool true])) ∧ Own w0 w' ((gw, WKof ga l a n b m d index row told (st + (1 + ((p % d : Nat) : Int)))) :: (ga, AR (.slice (some ⟨gd, 0, none⟩) l.length l.length) live peak) :: (gd, B l) :: rs) ss := by
  obtain ⟨hk, hS, lim, big, i1, i2⟩ := h
  have hn2 := hk.n2
  have hal : a + n ≤ l.length := by have := hk.ap; have := hk.fit; omega
  have hal2 : (a : Int) + n ≤ live := by have := hk.ap; have := hk.fit; omega
  have hcl : (colOf l a n).length = n := len_col hal
  have hcb : Bytes (colOf l a n) := col_bytes hS.byt
  have hs := hcb (gi (colOf l a n) p) (by rw [gi_eq _ p (by omega)]; exact List.getElem_mem _)
  obtain ⟨c, hc⟩ := Int.eq_ofNat_of_zero_le hs.1
  have hc1 : c < 256 := by omega
  have CB : Hid (∀ W, RowIs W ga (AR (.slice (some ⟨gd, 0, none⟩) l.length l.length) live peak) → RowIs W gd (B l) → Calls Tryz.prog 116 #[.pointer (some ⟨ga, 0, none⟩), .agg (SP a n), .int .i64 p] W fun e w' => (e = .returned (.tuple #[.int .u8 c, .bool true])) ∧ Below W.heap.size W w') := Lib.hid fun W h3 h4 => by have := byte_ok ga gd a n p l live peak W h3 h4 hal2 lim big (by omega); rwa [← gi_col hal (by omega), hc] at this
  have CR : Hid (∀ W, RowIs W ga (AR (.slice (some ⟨gd, 0, none⟩) l.length l.length) live peak) → RowIs W gd (B l) → Calls Tryz.prog 70 #[.pointer (some ⟨ga, 0, none⟩), .agg (SP a n), .agg (SP b m), .int .i64 d, .int .u8 c, .int .i64 p] W fun e w' => (e = .returned (.tuple #[.int .i64 (eqn ((colOf l a n).take p) c), .int .i64 ((p % d : Nat) : Int), .bool true])) ∧ Below W.heap.size W w') := Lib.hid fun W h3 h4 => rank_any ga gd a n b m d c p l live peak W h3 h4 hS hk lim big hc1 (by omega)
  have HAF : Hid (aft (colOf l a n) p = 1 + lsn (colOf l a n) c + eqn ((colOf l a n).take p) c) := Lib.hid (by rw [aft, hc, Int.toNat_natCast])
  have b1 := lsn_bound (colOf l a n) c
  have b2 := eqn_bound ((colOf l a n).take p) c
  have b3 := List.length_take_le' p (colOf l a n)
  have b4 := Nat.mod_lt p (show 0 < d by have := hk.d1; omega)
  have b5 := hk.d2
  have w1 : IntKind.i64.wrap (1 + lsn (colOf l a n) c) = 1 + lsn (colOf l a n) c := IntWalk.i64_in _ (by omega)
  have w2 : IntKind.i64.wrap (1 + lsn (colOf l a n) c + eqn ((colOf l a n).take p) c) = 1 + lsn (colOf l a n) c + eqn ((colOf l a n).take p) c := IntWalk.i64_in _ (by omega)
  have HAT := Lib.hid (at_tab .i64 (lsn (colOf l a n)) hc1)
  have hll : (tab 256 (lsn (colOf l a n))).length = 256 := len_tab _ _
  have HLL := Lib.hid hll
  rw [hc, HAF.out]
  clear hcb hs hc hcl hll i1 b1 b2 b3 HAF
  subst hp
  have q1 : (((p + 1 : Nat) : Int) == index) = false := by simp; omega
  have q1b : ((p : Int) + 1 == index) = false := by simp; omega
  have q2 : decide ((index : Int) < ((p + 1 : Nat) : Int)) = true := decide_eq_true (by omega)
  have q2b : decide ((index : Int) < (p : Int) + 1) = true := decide_eq_true (by omega)
  have q3 : decide (index < p + 1) = true := decide_eq_true hlt
  have w0b : IntKind.i64.wrap ((p : Int) + 1 - 1) = p := by rw [IntWalk.i64_in _ (by omega)]; omega
  have HATW : Hid (∀ (row told st : Int), (WK (.pointer (some ⟨ga, 0, none⟩)) a n b m index d (tab 256 (lsn (colOf l a n))) row told st)[7 + c]? = some (.int .i64 (lsn (colOf l a n) c))) := Lib.hid fun row told st => by rw [WK_at_less (by rw [len_tab]) c hc1, gi_tab _ hc1]
  obtain ⟨q, hq⟩ : ∃ q : Nat, q = p % d := ⟨_, rfl⟩
  rw [← hq] at CR b4 ⊢
  have w3 : IntKind.i64.wrap (1 + (q : Int)) = 1 + (q : Int) := IntWalk.i64_in _ (by omega)
  have w4 : IntKind.i64.wrap (st + (1 + (q : Int))) = st + (1 + (q : Int)) := IntWalk.i64_in _ (by omega)
  rw [WKof] at hm ⊢
  clear hS lim hq
  generalize hZ1 : lsn (colOf l a n) c = z1 at *
  generalize eqn ((colOf l a n).take p) c = z2 at *
  generalize tab 256 (lsn (colOf l a n)) = less at *
  go_enter Tryz.func74, Tryz.ntmps74
  go_upto_region 6 with (first
      | (with_reducible refine gLd (t := 3) ?_; (refine wpList_run rfl (ld 0 hm rfl rfl rfl (ot rfl) (WK_at_ix)) ?_)))
  refine wp_region_KO hm 9 (.rds [(0, false), (1, false), (2, false), (3, true), (4, false), (5, false), (6, false), (7, true), (8, false)] (.brk 9 15 (.rds [(10, false), (11, false), (12, false), (13, false), (14, false)] .done))) rfl (by kernel_rfl) rfl (by kernel_rfl) (fun _ _ d _ _ h => by cases d <;> exact h) ?_
  clear hm
  intro w hm
  simp only [KT.rds]
  (refine K_p rfl rfl (fun W => by go_simp; rfl) ?_)
  try simp only [Act.put, List.setIfInBounds_toArray, List.set_cons_zero, List.set_cons_succ]
  (refine K_p rfl rfl (fun W => by go_simp; rfl) ?_)
  try simp only [Act.put, List.setIfInBounds_toArray, List.set_cons_zero, List.set_cons_succ]
  (refine K_p rfl rfl (fun W => by go_simp; rfl) ?_)
  try simp only [Act.put, List.setIfInBounds_toArray, List.set_cons_zero, List.set_cons_succ]
  (refine K_m rfl rfl (fun W hm => ld 0 hm rfl rfl rfl (ot rfl) (WK_at_pa)) ?_)
  try simp only [Act.put, List.setIfInBounds_toArray, List.set_cons_zero, List.set_cons_succ]
  (refine K_p rfl rfl (fun W => by go_simp; rfl) ?_)
  try simp only [Act.put, List.setIfInBounds_toArray, List.set_cons_zero, List.set_cons_succ]
  (refine K_p rfl rfl (fun W => by go_simp; rfl) ?_)
  try simp only [Act.put, List.setIfInBounds_toArray, List.set_cons_zero, List.set_cons_succ]
  (refine K_p rfl rfl (fun W => by go_simp; rfl) ?_)
  try simp only [Act.put, List.setIfInBounds_toArray, List.set_cons_zero, List.set_cons_succ]
  (refine K_m rfl rfl (fun W hm => ldp 0 hm rfl rfl rfl WK_sp1 (aggSP _ _) (WK_fit1 HLL.out)) ?_)
  try simp only [Act.put, List.setIfInBounds_toArray, List.set_cons_zero, List.set_cons_succ]
  (refine K_p rfl rfl (fun W => by go_simp; rfl) ?_)
  try simp only [Act.put, List.setIfInBounds_toArray, List.set_cons_zero, List.set_cons_succ]
  refine brk_do rfl rfl (fun K hK => ?_)
  go_simp
  refine (CB.out _ (hm.row 1 rfl) (hm.row 2 rfl)).mono ?_
  rintro e w1 ⟨rfl, hb⟩
  replace hm := hm.call hb
  clear hb
  refine hK _ _ ⟨fun W => Own _ W _ _, hm, ?_⟩
  clear hK K
  try simp only [Act.put, List.setIfInBounds_toArray, List.set_cons_zero, List.set_cons_succ]
  (refine K_p rfl rfl (fun W => by go_simp; rfl) ?_)
  try simp only [Act.put, List.setIfInBounds_toArray, List.set_cons_zero, List.set_cons_succ]
  (refine K_p rfl rfl (fun W => by go_simp; rfl) ?_)
  try simp only [Act.put, List.setIfInBounds_toArray, List.set_cons_zero, List.set_cons_succ]
  (refine K_p rfl rfl (fun W => by go_simp; rfl) ?_)
  try simp only [Act.put, List.setIfInBounds_toArray, List.set_cons_zero, List.set_cons_succ]
  (refine K_p rfl rfl (fun W => by go_simp; rfl) ?_)
  try simp only [Act.put, List.setIfInBounds_toArray, List.set_cons_zero, List.set_cons_succ]
  (refine K_p rfl rfl (fun W => by go_simp; rfl) ?_)
  try simp only [Act.put, List.setIfInBounds_toArray, List.set_cons_zero, List.set_cons_succ]
  refine K_done ?_
  go_simp
  go_upto_region 7 with fail
  refine wp_region_KO hm 18 (.rds [(0, false), (1, false), (2, false), (3, true), (4, false), (5, false), (6, false), (7, true), (8, false), (9, false), (10, false), (11, true), (12, false), (13, false), (14, false), (15, true), (16, false), (17, false)] (.brk 18 26 (.rds [(19, false), (20, false), (21, false), (22, false), (23, false), (24, false), (25, false)] .done))) rfl (by kernel_rfl) rfl (by kernel_rfl) (fun _ _ d _ _ h => by cases d <;> exact h) ?_
  clear hm
  intro w hm
  simp only [KT.rds]
  (refine K_p rfl rfl (fun W => by go_simp; rfl) ?_)
  try simp only [Act.put, List.setIfInBounds_toArray, List.set_cons_zero, List.set_cons_succ]
  (refine K_p rfl rfl (fun W => by go_simp; rfl) ?_)
  try simp only [Act.put, List.setIfInBounds_toArray, List.set_cons_zero, List.set_cons_succ]
  (refine K_p rfl rfl (fun W => by go_simp; rfl) ?_)
  try simp only [Act.put, List.setIfInBounds_toArray, List.set_cons_zero, List.set_cons_succ]
  (refine K_m rfl rfl (fun W hm => ld 0 hm rfl rfl rfl (ot rfl) (WK_at_pa)) ?_)
  try simp only [Act.put, List.setIfInBounds_toArray, List.set_cons_zero, List.set_cons_succ]
  (refine K_p rfl rfl (fun W => by go_simp; rfl) ?_)
  try simp only [Act.put, List.setIfInBounds_toArray, List.set_cons_zero, List.set_cons_succ]
  (refine K_p rfl rfl (fun W => by go_simp; rfl) ?_)
  try simp only [Act.put, List.setIfInBounds_toArray, List.set_cons_zero, List.set_cons_succ]
  (refine K_p rfl rfl (fun W => by go_simp; rfl) ?_)
  try simp only [Act.put, List.setIfInBounds_toArray, List.set_cons_zero, List.set_cons_succ]
  (refine K_m rfl rfl (fun W hm => ldp 0 hm rfl rfl rfl WK_sp1 (aggSP _ _) (WK_fit1 HLL.out)) ?_)
  try simp only [Act.put, List.setIfInBounds_toArray, List.set_cons_zero, List.set_cons_succ]
  (refine K_p rfl rfl (fun W => by go_simp; rfl) ?_)
  try simp only [Act.put, List.setIfInBounds_toArray, List.set_cons_zero, List.set_cons_succ]
  (refine K_p rfl rfl (fun W => by go_simp; rfl) ?_)
  try simp only [Act.put, List.setIfInBounds_toArray, List.set_cons_zero, List.set_cons_succ]
  (refine K_p rfl rfl (fun W => by go_simp; rfl) ?_)
  try simp only [Act.put, List.setIfInBounds_toArray, List.set_cons_zero, List.set_cons_succ]
  (refine K_m rfl rfl (fun W hm => ldp 0 hm rfl rfl rfl WK_sp3 (aggSP _ _) (WK_fit3 HLL.out)) ?_)
  try simp only [Act.put, List.setIfInBounds_toArray, List.set_cons_zero, List.set_cons_succ]
  (refine K_p rfl rfl (fun W => by go_simp; rfl) ?_)
  try simp only [Act.put, List.setIfInBounds_toArray, List.set_cons_zero, List.set_cons_succ]
  (refine K_p rfl rfl (fun W => by go_simp; rfl) ?_)
  try simp only [Act.put, List.setIfInBounds_toArray, List.set_cons_zero, List.set_cons_succ]
  (refine K_p rfl rfl (fun W => by go_simp; rfl) ?_)
  try simp only [Act.put, List.setIfInBounds_toArray, List.set_cons_zero, List.set_cons_succ]
  (refine K_m rfl rfl (fun W hm => ld 0 hm rfl rfl rfl (ot rfl) (WK_at_ds)) ?_)
  try simp only [Act.put, List.setIfInBounds_toArray, List.set_cons_zero, List.set_cons_succ]
  (refine K_p rfl rfl (fun W => by go_simp; rfl) ?_)
  try simp only [Act.put, List.setIfInBounds_toArray, List.set_cons_zero, List.set_cons_succ]
  (refine K_p rfl rfl (fun W => by go_simp; rfl) ?_)
  try simp only [Act.put, List.setIfInBounds_toArray, List.set_cons_zero, List.set_cons_succ]
  refine brk_do rfl rfl (fun K hK => ?_)
  go_simp
  refine (CR.out _ (hm.row 1 rfl) (hm.row 2 rfl)).mono ?_
  rintro e w1 ⟨rfl, hb⟩
  replace hm := hm.call hb
  clear hb
  refine hK _ _ ⟨fun W => Own _ W _ _, hm, ?_⟩
  clear hK K
  try simp only [Act.put, List.setIfInBounds_toArray, List.set_cons_zero, List.set_cons_succ]
  (refine K_p rfl rfl (fun W => by go_simp; rfl) ?_)
  try simp only [Act.put, List.setIfInBounds_toArray, List.set_cons_zero, List.set_cons_succ]
  (refine K_p rfl rfl (fun W => by go_simp; rfl) ?_)
  try simp only [Act.put, List.setIfInBounds_toArray, List.set_cons_zero, List.set_cons_succ]
  (refine K_p rfl rfl (fun W => by go_simp; rfl) ?_)
  try simp only [Act.put, List.setIfInBounds_toArray, List.set_cons_zero, List.set_cons_succ]
  (refine K_p rfl rfl (fun W => by go_simp; rfl) ?_)
  try simp only [Act.put, List.setIfInBounds_toArray, List.set_cons_zero, List.set_cons_succ]
  (refine K_p rfl rfl (fun W => by go_simp; rfl) ?_)
  try simp only [Act.put, List.setIfInBounds_toArray, List.set_cons_zero, List.set_cons_succ]
  (refine K_p rfl rfl (fun W => by go_simp; rfl) ?_)
  try simp only [Act.put, List.setIfInBounds_toArray, List.set_cons_zero, List.set_cons_succ]
  (refine K_p rfl rfl (fun W => by go_simp; rfl) ?_)
  try simp only [Act.put, List.setIfInBounds_toArray, List.set_cons_zero, List.set_cons_succ]
  refine K_done ?_
  go_simp
  go_wp2_with (first
      | (with_reducible refine gLd (t := 3) ?_; (refine wpList_run rfl (ld 0 hm rfl rfl rfl (ot rfl) (by first | exact (WK_at_st HLL.out) | exact (HATW.out _ _ _))) ?_))
      | (with_reducible refine gSt (t := 3) ?_; (refine list_eff rfl (eff_cell 0 hm rfl rfl (ev_tmp rfl) rfl (ot rfl) (WK_lt_st HLL.out) rfl rfl (WK_put_st HLL.out _) ?_); clear hm; intro w hm; try simp only [puts, List.cons_append, List.nil_append, List.set] at hm)))
  refine bodyPost_ret (results_tmp3 rfl _ _ _) rfl ⟨rfl, hm⟩
theorem wbehind_any (gw ga gd a n b m d index : Nat) (l : List Int) (row told st live peak : Int) (r : Nat) (w0 w : World) (rs : List (Nat × Array Value)) (ss : List Sl) (hm : Own w0 w ((gw, WKof ga l a n b m d index row told st) :: (ga, AR (.slice (some ⟨gd, 0, none⟩) l.length l.length) live peak) :: (gd, B l) :: rs) ss) (h : WkOk l live a n b m d index) (hr : r ≤ n) (s0 : 0 ≤ st) (s1 : st ≤ 1000000000000000) : Calls Tryz.prog 74 #[.pointer (some ⟨gw, 0, none⟩), .int .i64 r] w fun e w' => if r = index then (e = .returned (.tuple #[.int .i64 0, .int .u8 0, .bool false])) ∧ Own w0 w' ((gw, WKof ga l a n b m d index row told st) :: (ga, AR (.slice (some ⟨gd, 0, none⟩) l.length l.length) live peak) :: (gd, B l) :: rs) ss else (e = .returned (.tuple #[.int .i64 (aft (colOf l a n) (colp index r)), .int .u8 (gi (colOf l a n) (colp index r)), .bool true])) ∧ Own w0 w' ((gw, WKof ga l a n b m d index row told (st + (1 + ((colp index r % d : Nat) : Int)))) :: (ga, AR (.slice (some ⟨gd, 0, none⟩) l.length l.length) live peak) :: (gd, B l) :: rs) ss := by
  by_cases he : r = index
  · simp only [if_pos he]
    exact wbehind_end gw ga gd a n b m d index l row told st live peak r w0 w rs ss hm h hr s0 s1 he
  · simp only [if_neg he]
    by_cases hl : index < r
    · have hc : colp index r = r - 1 := by rw [colp, if_pos hl]
      rw [hc]
      exact wbehind_hi gw ga gd a n b m d index l row told st live peak r w0 w rs ss hm h hr s0 s1 (r - 1) (by omega) hl
    · have hc : colp index r = r := by rw [colp, if_neg hl]
      rw [hc]
      exact wbehind_lo gw ga gd a n b m d index l row told st live peak r w0 w rs ss hm h hr s0 s1 r rfl (by omega)
end Go.Proofs.YtkpbhdhkdonghaaGreat

namespace Go.Proofs.YtkpbhdhkdonghaaGreat
open Go Go.RowKit
theorem aft_nat {l : List Int} (hb : Bytes l) (k : Nat) (h : k < l.length) : ((aft l k).toNat : Int) = aft l k ∧ (aft l k).toNat ≤ l.length := by
  have := aft_bound hb k h
  omega
def wval (l : List Int) (index : Nat) : Nat → Nat → Bool
  | 0, r => decide (r = index)
  | k + 1, r => if r = index then false else wval l index k (aft l (colp index r)).toNat
def wst (l : List Int) (index d : Nat) : Nat → Nat → Int
  | 0, _ => 0
  | k + 1, r => if r = index then 0 else 1 + ((colp index r % d : Nat) : Int) + wst l index d k (aft l (colp index r)).toNat
set_option maxRecDepth 100000 in
set_option maxHeartbeats 4000000 in
theorem rwvalid_any (gw ga gd a n b m d index : Nat) (l : List Int) (row told st live peak : Int) (w0 w : World) (rs : List (Nat × Array Value)) (ss : List Sl) (hm : Own w0 w ((gw, WKof ga l a n b m d index row told st) :: (ga, AR (.slice (some ⟨gd, 0, none⟩) l.length l.length) live peak) :: (gd, B l) :: rs) ss) (h : WkOk l live a n b m d index) (s0 : 0 ≤ st) (s1 : st ≤ 100000000000000) : Calls Tryz.prog 29 #[.pointer (some ⟨gw, 0, none⟩)] w fun e w' => (e = .returned (.bool (wval (colOf l a n) index n 0))) ∧ Own w0 w' ((gw, WKof ga l a n b m d index row told (st + wst (colOf l a n) index d n 0)) :: (ga, AR (.slice (some ⟨gd, 0, none⟩) l.length l.length) live peak) :: (gd, B l) :: rs) ss := by
  have hk := h.rk
  have hal : a + n ≤ l.length := by have := hk.ap; have := hk.fit; have := h.lim; omega
  have HCL := Lib.hid (len_col hal)
  have HCB := Lib.hid (col_bytes (a := a) (n := n) h.sm.byt)
  have hn2 := hk.n2
  have hd2 := hk.d2
  have hd1 := hk.d1
  have i1 := h.i1
  have i2 := h.i2
  have CBH : Hid (∀ W (r : Nat) (st' : Int), Own w0 W ((gw, WKof ga l a n b m d index row told st') :: (ga, AR (.slice (some ⟨gd, 0, none⟩) l.length l.length) live peak) :: (gd, B l) :: rs) ss → r ≤ n → 0 ≤ st' → st' ≤ 1000000000000000 → Calls Tryz.prog 74 #[.pointer (some ⟨gw, 0, none⟩), .int .i64 r] W fun e w' => if r = index then (e = .returned (.tuple #[.int .i64 0, .int .u8 0, .bool false])) ∧ Own w0 w' ((gw, WKof ga l a n b m d index row told st') :: (ga, AR (.slice (some ⟨gd, 0, none⟩) l.length l.length) live peak) :: (gd, B l) :: rs) ss else (e = .returned (.tuple #[.int .i64 (aft (colOf l a n) (colp index r)), .int .u8 (gi (colOf l a n) (colp index r)), .bool true])) ∧ Own w0 w' ((gw, WKof ga l a n b m d index row told (st' + (1 + ((colp index r % d : Nat) : Int)))) :: (ga, AR (.slice (some ⟨gd, 0, none⟩) l.length l.length) live peak) :: (gd, B l) :: rs) ss) := Lib.hid fun W r st' hW hr h0 h1 => wbehind_any gw ga gd a n b m d index l row told st' live peak r w0 W rs ss hW h hr h0 h1
  obtain ⟨bv, hbv⟩ : ∃ bv, bv = wval (colOf l a n) index n 0 := ⟨_, rfl⟩
  obtain ⟨sv, hsv⟩ : ∃ sv, sv = wst (colOf l a n) index d n 0 := ⟨_, rfl⟩
  rw [← hbv, ← hsv]
  have HBV := Lib.hid hbv
  have HSV := Lib.hid hsv
  clear hbv hsv h hk hal
  go_enter Tryz.func29, Tryz.ntmps29
  go_wp2_with (first
    | (with_reducible refine gLd (t := 3) ?_; (refine wpList_run rfl (ld 0 hm rfl rfl rfl (ot rfl) WK_at_ln) ?_)))
  go_loopw [3, 17] (fun z u wr => ∃ (j r : Nat) (s1 : Int), j ≤ n ∧ r ≤ n ∧ u = .int .i64 j ∧ z = .int .i64 r ∧ 0 ≤ s1 ∧ s1 ≤ j * 65537 ∧ bv = wval (colOf l a n) index (n - j) r ∧ sv = s1 + wst (colOf l a n) index d (n - j) r ∧ Own w0 wr ((gw, WKof ga l a n b m d index row told (st + s1)) :: (ga, AR (.slice (some ⟨gd, 0, none⟩) l.length l.length) live peak) :: (gd, B l) :: rs) ss) (fun _ u _ => n - (intOf u).toNat)
  case atStart => exact ⟨0, 0, 0, by omega, by omega, rfl, rfl, by omega, by omega, HBV.out, by rw [Int.zero_add]; exact HSV.out, by rw [Int.add_zero]; exact hm⟩
  case round =>
    clear hm
    obtain ⟨j, r, s1, hj, hr, rfl, rfl, s10, s11, hb, hs, hm⟩ := hrel
    by_cases hlt : j < n
    · obtain ⟨i, hi⟩ : ∃ i, n - j = i + 1 := ⟨n - j - 1, by omega⟩
      rw [hi, wval] at hb
      rw [hi, wst] at hs
      have CB := Lib.hid (fun W hW => CBH.out W r (st + s1) hW hr (by omega) (by omega))
      by_cases he : r = index
      · simp only [if_pos he] at CB
        rw [if_pos he] at hb hs
        rw [Int.add_zero] at hs
        subst hb hs
        clear he
        go_wp2_with (first
            | (go_at_call 74; have _t := hm; refine (CB.out _ hm).mono ?_; clear _t hm; rintro e w ⟨rfl, hm⟩)
            | (with_reducible refine gLd (t := 3) ?_; (refine wpList_run rfl (ld 0 hm rfl rfl rfl (ot rfl) WK_at_ix) ?_)))
        go_ret
        exact ⟨rfl, hm⟩
      · simp only [if_neg he] at CB
        rw [if_neg he] at hb hs
        have hpl : colp index r < n := colp_lt i1 i2 hr he
        obtain ⟨e1, e2⟩ := aft_nat HCB.out (colp index r) (by rw [HCL.out]; exact hpl)
        rw [HCL.out] at e2
        rw [← e1] at CB
        have hmod := Nat.mod_lt (colp index r) (show 0 < d by omega)
        have HB2 := Lib.hid hb
        have HS2 := Lib.hid hs
        clear hb hs he e1
        generalize (aft (colOf l a n) (colp index r)).toNat = r2 at *
        generalize gi (colOf l a n) (colp index r) = c at *
        generalize colp index r % d = m2 at *
        go_wp2_with (first
            | (go_at_call 74; have _t := hm; refine (CB.out _ hm).mono ?_; clear _t hm; rintro e w ⟨rfl, hm⟩)
            | (with_reducible refine gLd (t := 3) ?_; (refine wpList_run rfl (ld 0 hm rfl rfl rfl (ot rfl) WK_at_ix) ?_)))
        go_roundw
        case rel => exact ⟨j + 1, r2, s1 + (1 + (m2 : Int)), by omega, e2, by go_num, rfl, by omega, by push_cast; omega, by rw [show n - (j + 1) = i by omega]; exact HB2.out, by rw [HS2.out, show n - (j + 1) = i by omega]; omega, by rw [show st + (s1 + (1 + (m2 : Int))) = st + s1 + (1 + (m2 : Int)) by omega]; exact hm⟩
        case measure => simp [intOf]; omega
    · obtain rfl : n = j := by omega
      rw [Nat.sub_self, wval] at hb
      rw [Nat.sub_self, wst, Int.add_zero] at hs
      subst hb hs
      have q1 : ((r : Int) == index) = decide (r = index) := by
        by_cases h : r = index
        · simp [h]
        · rw [decide_eq_false h]; simp; omega
      generalize hbb : decide (r = index) = bb at *
      have HBB := Lib.hid hbb
      clear hbb
      go_wp2_with (first
          | (go_at_call 74; have _t := hm; refine (CB.out _ hm).mono ?_; clear _t hm; rintro e w ⟨rfl, hm⟩)
          | (with_reducible refine gLd (t := 3) ?_; (refine wpList_run rfl (ld 0 hm rfl rfl rfl (ot rfl) WK_at_ix) ?_)))
      go_ret
      exact ⟨by rw [HBB.out]; rfl, hm⟩
end Go.Proofs.YtkpbhdhkdonghaaGreat

namespace Go.Proofs.YtkpbhdhkdonghaaGreat
open Go Go.RowKit
set_option maxRecDepth 100000 in
set_option maxHeartbeats 1000000 in
theorem rwnext_go (gw ga gd a n b m d index : Nat) (l : List Int) (r k : Nat) (st live peak : Int) (w0 w : World) (rs : List (Nat × Array Value)) (ss : List Sl) (hm : Own w0 w ((gw, WKof ga l a n b m d index r k st) :: (ga, AR (.slice (some ⟨gd, 0, none⟩) l.length l.length) live peak) :: (gd, B l) :: rs) ss) (h : WkOk l live a n b m d index) (s0 : 0 ≤ st) (s1 : st ≤ 100000000000000) (hr : r ≤ n) (hk : k < n) (he : r ≠ index) : Calls Tryz.prog 31 #[.pointer (some ⟨gw, 0, none⟩)] w fun e w' => (e = .returned (.tuple #[.int .u8 (gi (colOf l a n) (colp index r)), .bool true])) ∧ Own w0 w' ((gw, WKof ga l a n b m d index (aft (colOf l a n) (colp index r)) (k + 1) (st + (1 + ((colp index r % d : Nat) : Int)))) :: (ga, AR (.slice (some ⟨gd, 0, none⟩) l.length l.length) live peak) :: (gd, B l) :: rs) ss := by
  have CB : Hid (∀ W, Own w0 W ((gw, WKof ga l a n b m d index r k st) :: (ga, AR (.slice (some ⟨gd, 0, none⟩) l.length l.length) live peak) :: (gd, B l) :: rs) ss → Calls Tryz.prog 74 #[.pointer (some ⟨gw, 0, none⟩), .int .i64 r] W fun e w' => if r = index then (e = .returned (.tuple #[.int .i64 0, .int .u8 0, .bool false])) ∧ Own w0 w' ((gw, WKof ga l a n b m d index r k st) :: (ga, AR (.slice (some ⟨gd, 0, none⟩) l.length l.length) live peak) :: (gd, B l) :: rs) ss else (e = .returned (.tuple #[.int .i64 (aft (colOf l a n) (colp index r)), .int .u8 (gi (colOf l a n) (colp index r)), .bool true])) ∧ Own w0 w' ((gw, WKof ga l a n b m d index r k (st + (1 + ((colp index r % d : Nat) : Int)))) :: (ga, AR (.slice (some ⟨gd, 0, none⟩) l.length l.length) live peak) :: (gd, B l) :: rs) ss) := Lib.hid fun W hW => wbehind_any gw ga gd a n b m d index l r k st live peak r w0 W rs ss hW h hr s0 (by omega)
  have hn2 := h.rk.n2
  have q1 : ((k : Int) == n) = false := by simp; omega
  have w1 : IntKind.i64.wrap ((k : Int) + 1) = (k : Int) + 1 := IntWalk.i64_in _ (by omega)
  simp only [if_neg he] at CB
  clear h s0 s1 he hr
  generalize aft (colOf l a n) (colp index r) = r2 at *
  obtain ⟨q, hq⟩ : ∃ q : Nat, q = colp index r % d := ⟨_, rfl⟩
  rw [← hq] at CB ⊢
  generalize gi (colOf l a n) (colp index r) = c at *
  clear hq
  go_enter Tryz.func31, Tryz.ntmps31
  go_upto_region 1 with fail
  refine wp_region_KO hm 14 (.rds [(0, false), (1, false), (2, false), (3, false), (4, false), (5, false), (6, true), (7, false), (8, false), (9, false), (10, false), (11, true), (12, false), (13, false)] .done) rfl (by kernel_rfl) rfl (by kernel_rfl) (fun _ _ d _ _ h => by cases d <;> exact h) ?_
  clear hm
  intro w hm
  simp only [KT.rds]
  (refine K_p rfl rfl (fun W => by go_simp; rfl) ?_)
  try simp only [Act.put, List.setIfInBounds_toArray, List.set_cons_zero, List.set_cons_succ]
  (refine K_p rfl rfl (fun W => by go_simp; rfl) ?_)
  try simp only [Act.put, List.setIfInBounds_toArray, List.set_cons_zero, List.set_cons_succ]
  (refine K_p rfl rfl (fun W => by go_simp; rfl) ?_)
  try simp only [Act.put, List.setIfInBounds_toArray, List.set_cons_zero, List.set_cons_succ]
  (first | (refine K_p rfl rfl (fun W => by go_simp; rfl) ?_) | (refine K_pass rfl rfl ?_))
  try simp only [Act.put, List.setIfInBounds_toArray, List.set_cons_zero, List.set_cons_succ]
  (first | (refine K_p rfl rfl (fun W => by go_simp; rfl) ?_) | (refine K_pass rfl rfl ?_))
  try simp only [Act.put, List.setIfInBounds_toArray, List.set_cons_zero, List.set_cons_succ]
  (first | (refine K_p rfl rfl (fun W => by go_simp; rfl) ?_) | (refine K_pass rfl rfl ?_))
  try simp only [Act.put, List.setIfInBounds_toArray, List.set_cons_zero, List.set_cons_succ]
  (first | (refine K_m rfl rfl (fun W hm => ld 0 hm rfl rfl rfl (ot rfl) (WK_at_told (len_tab _ _))) ?_) | (refine K_mpass rfl rfl ?_))
  try simp only [Act.put, List.setIfInBounds_toArray, List.set_cons_zero, List.set_cons_succ]
  (first | (refine K_p rfl rfl (fun W => by go_simp; rfl) ?_) | (refine K_pass rfl rfl ?_))
  try simp only [Act.put, List.setIfInBounds_toArray, List.set_cons_zero, List.set_cons_succ]
  (first | (refine K_p rfl rfl (fun W => by go_simp; rfl) ?_) | (refine K_pass rfl rfl ?_))
  try simp only [Act.put, List.setIfInBounds_toArray, List.set_cons_zero, List.set_cons_succ]
  (first | (refine K_p rfl rfl (fun W => by go_simp; rfl) ?_) | (refine K_pass rfl rfl ?_))
  try simp only [Act.put, List.setIfInBounds_toArray, List.set_cons_zero, List.set_cons_succ]
  (first | (refine K_p rfl rfl (fun W => by go_simp; rfl) ?_) | (refine K_pass rfl rfl ?_))
  try simp only [Act.put, List.setIfInBounds_toArray, List.set_cons_zero, List.set_cons_succ]
  (first | (refine K_m rfl rfl (fun W hm => ld 0 hm rfl rfl rfl (ot rfl) WK_at_ln) ?_) | (refine K_mpass rfl rfl ?_))
  try simp only [Act.put, List.setIfInBounds_toArray, List.set_cons_zero, List.set_cons_succ]
  (first | (refine K_p rfl rfl (fun W => by go_simp; rfl) ?_) | (refine K_pass rfl rfl ?_))
  try simp only [Act.put, List.setIfInBounds_toArray, List.set_cons_zero, List.set_cons_succ]
  (refine K_p rfl rfl (fun W => by go_simp; rfl) ?_)
  try simp only [Act.put, List.setIfInBounds_toArray, List.set_cons_zero, List.set_cons_succ]
  refine K_done ?_
  go_simp
  go_wp2_with (first
      | (go_at_call 74; have _t := hm; refine (CB.out _ hm).mono ?_; clear _t hm; rintro e w ⟨rfl, hm⟩)
      | (with_reducible refine gLd (t := 3) ?_; (refine wpList_run rfl (ld 0 hm rfl rfl rfl (ot rfl) (by first | exact (WK_at_row (len_tab _ _)) | exact (WK_at_told (len_tab _ _)))) ?_))
      | (with_reducible refine gSt (t := 3) ?_; (refine list_eff rfl (eff_cell 0 hm rfl rfl (ev_tmp rfl) rfl (ot rfl) (by first | exact (WK_lt_row (len_tab _ _)) | exact (WK_lt_told (len_tab _ _))) rfl rfl (by first | exact (WK_put_row (len_tab _ _) _) | exact (WK_put_told (len_tab _ _) _)) ?_); clear hm; intro w hm; try simp only [puts, List.cons_append, List.nil_append, List.set] at hm)))
  go_ret2
  exact ⟨rfl, hm⟩
end Go.Proofs.YtkpbhdhkdonghaaGreat

namespace Go.Proofs.YtkpbhdhkdonghaaGreat
open Go Go.RowKit
theorem zrWK (w : World) : (zeroValue 121).run Tryz.prog w = .ok (.agg (WK (.pointer none) 0 0 0 0 0 0 (tab 256 fun _ => 0) 0 0 0)) w := by kernel_rfl
theorem exec_build121 {o : Oper} {a : Act} {w : World} {x y z u v : Operand} (ho : o.op = .build 121 #[(0, x), (1, y), (2, z), (3, u), (4, v)]) {p : Value} {la ln mb mn ix ds : Int} (hx : a.eval x = p) (hp : p.cells = #[p]) (hy : a.eval y = .agg (SP la ln)) (hz : a.eval z = .agg (SP mb mn)) (hu : a.eval u = .int .i64 ix) (hv : a.eval v = .int .i64 ds) :
    (execOp a.eval o).run Tryz.prog w = .ok (.value (.agg (WK p la ln mb mn ix ds (tab 256 fun _ => 0) 0 0 0))) w := by
  refine exec_bld ho ?_
  rw [built_gen (places := [(0, 1), (1, 2), (3, 2), (5, 1), (6, 1), (7, 256), (263, 1), (264, 1), (265, 1)]) (by kernel_rfl) (by kernel_rfl) zrWK (by kernel_rfl) w]
  simp only [List.map_toArray, List.map_cons, List.map_nil, hx, hy, hz, hu, hv]
  have hl : (tab 256 fun _ => 0).length = 256 := len_tab _ _
  generalize (tab 256 fun _ => 0) = less at *
  rw [fill_cell rfl hp (by rw [WK_size hl]; omega) (WK_put_pa p)]
  rw [show SP la ln = ([Value.int .i64 la, Value.int .i64 ln] : List Value).toArray from rfl, fill_agg [Value.int .i64 la, Value.int .i64 ln] (n := 2) (ns := WK p la ln 0 0 0 0 less 0 0 0) rfl rfl (by rw [WK_size hl]; omega) (by
    show splice ([p] ++ ([Value.int .i64 0, Value.int .i64 0] ++ ([Value.int .i64 0, Value.int .i64 0, Value.int .i64 0, Value.int .i64 0] ++ (vs .i64 less ++ [Value.int .i64 0, Value.int .i64 0, Value.int .i64 0])))).toArray 1 _ = _
    exact spl3 (off := 1) (P := [p]) rfl rfl)]
  rw [show SP mb mn = ([Value.int .i64 mb, Value.int .i64 mn] : List Value).toArray from rfl, fill_agg [Value.int .i64 mb, Value.int .i64 mn] (n := 2) (ns := WK p la ln mb mn 0 0 less 0 0 0) rfl rfl (by rw [WK_size hl]; omega) (by
    show splice ([p, Value.int .i64 la, Value.int .i64 ln] ++ ([Value.int .i64 0, Value.int .i64 0] ++ ([Value.int .i64 0, Value.int .i64 0] ++ (vs .i64 less ++ [Value.int .i64 0, Value.int .i64 0, Value.int .i64 0])))).toArray 3 _ = _
    exact spl3 (off := 3) (P := [p, Value.int .i64 la, Value.int .i64 ln]) rfl rfl)]
  rw [fill_cell rfl rfl (by rw [WK_size hl]; omega) (WK_put_ix ix), fill_cell rfl rfl (by rw [WK_size hl]; omega) (WK_put_ds ds)]
  rfl
theorem Own.rot4 {w0 w : World} {p q r s : Nat × Array Value} {rs : List (Nat × Array Value)} {ss : List Sl} (h : Own w0 w (p :: q :: r :: s :: rs) ss) : Own w0 w (r :: s :: p :: q :: rs) ss := h.perm ((List.perm_append_comm (l₁ := [r, s]) (l₂ := [p, q])).append_right rs)
theorem Own.sel34 {w0 w : World} {p q r s t : Nat × Array Value} {rs : List (Nat × Array Value)} {ss : List Sl} (h : Own w0 w (t :: p :: q :: r :: s :: rs) ss) : Own w0 w (t :: r :: s :: rs) ss := h.sub (List.Sublist.cons_cons _ (List.Sublist.cons _ (List.Sublist.cons _ (List.Sublist.refl _)))) (List.Sublist.refl _)
set_option maxRecDepth 100000 in
set_option maxHeartbeats 4000000 in
theorem rwnew_any (ga gd a n b m d index : Nat) (l : List Int) (live peak : Int) (w0 w : World) (rs : List (Nat × Array Value)) (ss : List Sl) (hm : Own w0 w ((ga, AR (.slice (some ⟨gd, 0, none⟩) l.length l.length) live peak) :: (gd, B l) :: rs) ss) (hb : Bytes l) (hk : RkOk live a n b m d) (lim : live ≤ l.length) (big : l.length ≤ 1048576) (i1 : 1 ≤ index) (i2 : index ≤ n) : Calls Tryz.prog 26 #[.pointer (some ⟨ga, 0, none⟩), .agg (SP a n), .int .i64 index, .agg (SP b m), .int .i64 d] w fun e w' => ∃ (gw : Nat) (l2 : List Int), (e = .returned (.tuple #[.pointer (some ⟨gw, 0, none⟩), .int .i64 0])) ∧ l2.length = l.length ∧ colOf l2 a n = colOf l a n ∧ (∀ i, i < b → gi l2 i = gi l i) ∧ WkOk l2 live a n b m d index ∧ Own w0 w' ((gw, WKof ga l2 a n b m d index 0 0 0) :: (ga, AR (.slice (some ⟨gd, 0, none⟩) l2.length l2.length) live peak) :: (gd, B l2) :: rs) ss := by
  have CM : Hid (∀ W g1 g2, Own w0 W ((g2, SP b m) :: (g1, SP a n) :: (ga, AR (.slice (some ⟨gd, 0, none⟩) l.length l.length) live peak) :: (gd, B l) :: rs) ss → Calls Tryz.prog 69 #[.pointer (some ⟨ga, 0, none⟩), .agg (SP a n), .agg (SP b m), .int .i64 d] W fun e w' => (e = .returned (.int .i64 0)) ∧ ∃ l2, Marks (colOf l a n) l l2 b d (n / d) 0 ∧ Own w0 w' ((g2, SP b m) :: (g1, SP a n) :: (ga, AR (.slice (some ⟨gd, 0, none⟩) l.length l.length) live peak) :: (gd, B l2) :: rs) ss) := Lib.hid fun W g1 g2 hW => (make_any ga gd a n b m d l live peak w0 W ((g2, SP b m) :: (g1, SP a n) :: rs) ss hW.rot4 hb hk lim big).mono fun e w' h => by
    obtain ⟨h1, l2, h2, h3⟩ := h
    exact ⟨h1, l2, h2, h3.rot4⟩
  have hal : a + n ≤ l.length := by have := hk.ap; have := hk.fit; omega
  have q1 : decide ((index : Int) < 1) = false := decide_eq_false (by omega)
  have q2 : decide ((n : Int) < index) = false := decide_eq_false (by omega)
  have q3 : decide (n < index) = false := decide_eq_false (by omega)
  have HK := Lib.hid hk
  have ap := hk.ap
  have n2 := hk.n2
  clear hk hb
  go_enter Tryz.func26, Tryz.ntmps26
  go_wp2_with (first
    | (go_at_call 69; have _t := hm; refine (CM.out _ _ _ hm).mono ?_; clear _t hm; rintro e w ⟨rfl, l2, hM, hm⟩)
    | (with_reducible refine gBx ?_; (refine list_eff rfl (eff_box hm rfl rfl ?_); clear hm; first | (have _t := g2; intro w gw hm) | (have _t := g1; intro w g2 hm) | intro w g1 hm))
    | (with_reducible refine gBu ?_; (refine wpList_run rfl (exec_build121 rfl rfl rfl rfl rfl rfl rfl) ?_))
    | (with_reducible refine gLd (t := 3) ?_; (first | (refine wpList_run rfl (ld 0 hm rfl rfl rfl (ot rfl) (by first | exact (SP0 _ _) | exact (SP1 _ _))) ?_) | (refine wpList_run rfl (ld 1 hm rfl rfl rfl (ot rfl) (by first | exact (SP0 _ _) | exact (SP1 _ _))) ?_)))
    | (with_reducible refine gLd (t := 50) ?_; (first | (refine wpList_run rfl (lda 0 hm rfl rfl rfl (aggSP _ _)) ?_) | (refine wpList_run rfl (lda 1 hm rfl rfl rfl (aggSP _ _)) ?_))))
  obtain ⟨hS, hcol⟩ := hM.sampled hal ap
  have hl2 := hM.len
  have hout := hM.out
  rw [← hl2] at hm
  have CR : Hid (∀ (W : World) (k : Nat), RowIs W ga (AR (.slice (some ⟨gd, 0, none⟩) l2.length l2.length) live peak) → RowIs W gd (B l2) → k < 256 → Calls Tryz.prog 70 #[.pointer (some ⟨ga, 0, none⟩), .agg (SP a n), .agg (SP b m), .int .i64 d, .int .u8 k, .int .i64 n] W fun e w' => (e = .returned (.tuple #[.int .i64 (eqn (colOf l2 a n) k), .int .i64 ((n % d : Nat) : Int), .bool true])) ∧ Below W.heap.size W w') := Lib.hid fun W k h3 h4 hk => by
    have := rank_any ga gd a n b m d k n l2 live peak W h3 h4 hS HK.out (by omega) (by omega) hk (Nat.le_refl _)
    rwa [List.take_of_length_le (by rw [len_col (by omega)]; exact Nat.le_refl _)] at this
  have HCL : Hid ((colOf l2 a n).length = n) := Lib.hid (len_col (by omega))
  have HCB : Hid (Bytes (colOf l2 a n)) := Lib.hid (col_bytes hS.byt)
  have HP1 := Lib.hid (⟨hl2, hcol, hout, ⟨HK.out, hS, by omega, by omega, i1, i2⟩⟩ : l2.length = l.length ∧ colOf l2 a n = colOf l a n ∧ (∀ i, i < b → gi l2 i = gi l i) ∧ WkOk l2 live a n b m d index)
  have hm0 : Own w0 w ((gw, WK (.pointer (some ⟨ga, 0, none⟩)) a n b m index d (tab 256 (fun j => if j < 0 then lsn (colOf l2 a n) j else 0)) 0 0 0) :: (g2, SP b m) :: (g1, SP a n) :: (ga, AR (.slice (some ⟨gd, 0, none⟩) l2.length l2.length) live peak) :: (gd, B l2) :: rs) ss := hm
  clear hM hS hcol hout hl2 hm
  have hm := hm0
  clear hm0
  go_loopw [14, 42] (fun z u wr => ∃ k : Nat, k ≤ 256 ∧ u = .int .i64 k ∧ z = .int .i64 (lsn (colOf l2 a n) k) ∧ Own w0 wr ((gw, WK (.pointer (some ⟨ga, 0, none⟩)) a n b m index d (tab 256 (fun j => if j < k then lsn (colOf l2 a n) j else 0)) 0 0 0) :: (g2, SP b m) :: (g1, SP a n) :: (ga, AR (.slice (some ⟨gd, 0, none⟩) l2.length l2.length) live peak) :: (gd, B l2) :: rs) ss) (fun _ u _ => 256 - (intOf u).toNat)
  case atStart => exact ⟨0, by omega, rfl, by rw [lsn_zero HCB.out], hm⟩
  case round =>
    clear hm
    obtain ⟨k, hk, rfl, rfl, hm⟩ := hrel
    by_cases hlt : k < 256
    · have b1 := lsn_bound (colOf l2 a n) k
      have b2 := eqn_bound (colOf l2 a n) k
      rw [HCL.out] at b1 b2
      have w1 : IntKind.u8.wrap (k : Int) = k := IntWalk.u8_in _ (by omega)
      have w3 : IntKind.i64.wrap (lsn (colOf l2 a n) k + eqn (colOf l2 a n) k) = lsn (colOf l2 a n) k + eqn (colOf l2 a n) k := IntWalk.i64_in _ (by omega)
      have HE2 := Lib.hid (lsn_succ (colOf l2 a n) k)
      have CR1 := Lib.hid (fun W h3 h4 => CR.out W k h3 h4 hlt)
      have HL1 : Hid ((tab 256 (fun j => if j < k then lsn (colOf l2 a n) j else 0)).length = 256) := Lib.hid (len_tab _ _)
      have HP : Hid ((tab 256 (fun j => if j < k then lsn (colOf l2 a n) j else 0)).set k (lsn (colOf l2 a n) k) = tab 256 (fun j => if j < k + 1 then lsn (colOf l2 a n) j else 0)) := Lib.hid (by
        rw [set_tab]
        refine tab_congr fun j _ => ?_
        by_cases e : j = k
        · subst e; rw [if_pos rfl, if_pos (by omega)]
        · rw [if_neg e]
          by_cases h : j < k
          · rw [if_pos h, if_pos (by omega)]
          · rw [if_neg h, if_neg (by omega)])
      have HSZ : Hid (∀ (x : List Int), x.length = 256 → 7 + k < (WK (.pointer (some ⟨ga, 0, none⟩)) a n b m index d x 0 0 0).size) := Lib.hid fun x hx => by rw [WK_size hx]; omega
      clear b1 b2
      generalize lsn (colOf l2 a n) k = x at *
      generalize eqn (colOf l2 a n) k = y at *
      generalize hT1 : tab 256 (fun j => if j < k then lsn (colOf l2 a n) j else 0) = T1 at *
      generalize hT2 : tab 256 (fun j => if j < k + 1 then lsn (colOf l2 a n) j else 0) = T2 at *
      go_wp2_with (first
          | (go_at_call 70; have _t := hm; refine (CR1.out _ (hm.row 3 rfl) (hm.row 4 rfl)).mono ?_; rintro e w1 ⟨rfl, hb⟩; replace hm := hm.call hb; clear hb _t)
          | (with_reducible refine gLd (t := 3) ?_; (first | (refine wpList_run rfl (ld 1 hm rfl rfl rfl (ot rfl) (by first | exact (SP0 _ _) | exact (SP1 _ _))) ?_) | (refine wpList_run rfl (ld 2 hm rfl rfl rfl (ot rfl) (by first | exact (SP0 _ _) | exact (SP1 _ _))) ?_)))
          | (with_reducible refine gLd (t := 50) ?_; (first | (refine wpList_run rfl (lda 1 hm rfl rfl rfl (aggSP _ _)) ?_) | (refine wpList_run rfl (lda 2 hm rfl rfl rfl (aggSP _ _)) ?_)))
          | (with_reducible refine gSt (t := 3) ?_; (refine list_eff rfl (eff_cell 0 hm rfl rfl (ev_tmp rfl) rfl (ot rfl) (HSZ.out _ HL1.out) rfl rfl (WK_put_less HL1.out k hlt _) ?_); clear hm; intro w hm; try simp only [puts, List.cons_append, List.nil_append, List.set] at hm)))
      rw [HP.out] at hm
      go_roundw
      case rel => exact ⟨k + 1, by omega, by go_num, by rw [HE2.out], by rw [hT2]; exact hm⟩
      case measure => simp [intOf]; omega
    · obtain rfl : k = 256 := by omega
      rw [tab_congr (f := fun j => if j < 256 then lsn (colOf l2 a n) j else 0) (g := lsn (colOf l2 a n)) (fun i hi => by rw [if_pos hi])] at hm
      go_wp2
      go_ret2
      exact ⟨gw, l2, rfl, HP1.out.1, HP1.out.2.1, HP1.out.2.2.1, HP1.out.2.2.2, hm.sel34⟩
end Go.Proofs.YtkpbhdhkdonghaaGreat
