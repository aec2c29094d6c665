/-
  Part 19 of the proof.
-/
import Derived.Test.YtkpbhdhkdonghaaGreatA15
import Derived.Test.YtkpbhdhkdonghaaGreatA18
set_option linter.all false
set_option maxHeartbeats 4000000
set_option maxRecDepth 100000
namespace Go.Proofs.YtkpbhdhkdonghaaGreat
open Go Tryz Go.RowKit
def encOk (l:I_) (r:Int):Bool:=vld l && decide (0<=r/\r<=2147483647)
theorem wI (w:World):Calls prog 192 #[] w (RB w (.agg (EV new 0))):=by
 go_enter func192,ntmps192;have hm:=Own.nil w
 go_wp2_with (first
 |(refine AL hm rfl rfl qo ?_;intro w2 g2 hm2;clear hm)
 |(go_at_call 169;have _t:=hm2;refine (new_any _).mono ?_;rintro e w3 ⟨rfl,hb3⟩;have hm3:=hm2.call hb3;clear hm2)
 |(refine A8 rfl (Xo rfl rfl FW) ?_)
 |(refine AY 0 hm3 rfl rfl rfl rfl rfl (aggE _ FW) (by rw [WE _ FW,WE _ DK]) (A2X _ _) ?_;intro w4 hm4;simp only [List.set] at hm4;clear hm3))
 refine b_r (AQ rfl rfl (hm4.row 0 rfl) (aggE _ FW)) rfl ?_;exact ⟨rfl,hm4.below⟩
open Go Go.RowKit
theorem TD {P:Program} {w:World} {o:Oper} {a:Act} {ty:TypeId} {x:Operand} (ho:o.op=.load ty x) {g off:Nat} (hx:a.eval x=.pointer (some ⟨g,off,none⟩)) {cs vs:A_}
  (hr:AA w g cs) (ht:Aq P ty vs.size) (hv:cs.extract off (off+vs.size)=vs) (hf:off+vs.size<=cs.size):(execOp a.eval o).run P w=.ok (.value (.agg vs)) w:=by
 have hrun:=Gp (P:=P) (off:=off) ho hx hr ht hf;rwa [hv] at hrun
def A72 (l:I_) (r:Int) (b:I_):Bool:=encOk l r && decide ((b.length:Int)<=2147483647 - r)
def A6m (l:I_) (r:Int) (b:I_):Int:=if A72 l r b then 0 else 2
theorem UG (k:Nat):∀ n,n<=k->2 ^ (dg n).length<=n+1/\n+1 < 2 ^ ((dg n).length+1):=by
 induction k with
|zero =>
  intro n hn;obtain rfl:n=0:=by omega
  rw [Og];simp
|succ k ih =>
  intro n hn;by_cases h0:n=0
  ·subst h0;rw [Og];simp
  ·rw [Xt n (by omega),List.length_cons];obtain ⟨h1,h2⟩:=ih ((n - 1) / 2) (by omega);generalize (dg ((n - 1) / 2)).length=m at *;rw [Nat.pow_succ] at h2;rw [Nat.pow_succ,Nat.pow_succ,Nat.pow_succ];omega
theorem Tc (n d:Nat):(dg n).length=d ↔ 2 ^ d - 1<=n/\n<=2 * (2 ^ d - 1):=by
 obtain ⟨h1,h2⟩:=UG n n (Nat.le_refl _);have hp:0 < 2 ^ d:=Nat.pow_pos (by omega)
 constructor
 ·rintro rfl;rw [Nat.pow_succ] at h2;omega
 ·rintro ⟨h3,h4⟩;rcases Nat.lt_trichotomy (dg n).length d with h|h|h
  ·have:=Nat.pow_le_pow_right (show 0 < 2 by omega) (show (dg n).length+1<=d by omega);omega
  ·exact h
  ·have:=Nat.pow_le_pow_right (show 0 < 2 by omega) (show d+1<=(dg n).length by omega);rw [Nat.pow_succ] at this;omega
def dOk (b:DS):Bool:=vld b.l && (decide (0<=b.left/\b.left<=65536/\0<=b.run/\b.run<=b.left/\0<=b.dig/\b.dig<=16/\((dg b.run.toNat).length:Int)=b.dig) && (!b.fin || decide (b.left=0/\b.run=0/\b.dig=0)))
def dNew (most:Int):DS:=if 1<=most/\most<=65536 then ⟨new,most,0,0,false⟩ else DS0
theorem YS (most:Int):(dNew most).l.length=256:=by
 rw [dNew];split
 ·exact FW
 ·exact DK
theorem A0w (most:Int) (w:World) (h0:¬ most < 1) (h1:¬ 65536 < most):Calls prog 128 #[.int .i64 most] w (RB w (.agg (V ⟨new,most,0,0,false⟩))):=by
 go_enter func128,ntmps128;have hm:=Own.nil w
 go_wp2_with (first
 |(refine AL hm rfl rfl Dc ?_;intro w2 g2 hm2;clear hm)
 |(go_at_call 169;have _t:=hm2;refine (new_any _).mono ?_;rintro e w3 ⟨rfl,hb3⟩;have hm3:=hm2.call hb3;clear hm2)
 |(refine A8 rfl (KW rfl rfl rfl FW) ?_)
 |(refine AY 0 hm3 rfl rfl rfl rfl rfl (BJ (b:=⟨new,most,0,0,false⟩) FW) (BR (b:=⟨new,most,0,0,false⟩) FW BF) (A35 _) ?_;intro w4 hm4;simp only [List.set] at hm4;clear hm3))
 refine b_r (AQ rfl rfl (hm4.row 0 rfl) (BJ (b:=⟨new,most,0,0,false⟩) FW)) rfl ?_;exact ⟨rfl,hm4.below⟩
theorem A0v (most:Int) (w:World) (h0:most < 1):Calls prog 128 #[.int .i64 most] w (RB w (.agg (V DS0))):=xb0
theorem A0x (most:Int) (w:World) (h0:¬ most < 1) (h1:65536 < most):Calls prog 128 #[.int .i64 most] w (RB w (.agg (V DS0))):=xb0
theorem Zx (most:Int) (w:World):Calls prog 128 #[.int .i64 most] w (RB w (.agg (V (dNew most)))):=by
 by_cases h0:most < 1
 ·rw [dNew,if_neg (by omega)];exact A0v most w h0
 by_cases h1:65536 < most
 ·rw [dNew,if_neg (by omega)];exact A0x most w h0 h1
 ·rw [dNew,if_pos (by omega)];exact A0w most w h0 h1
theorem dv_v (b:DS) (w:World) (hl:b.l.length=256) (CV:Hid (∀ w,Calls prog 215 #[.agg (B b.l)] w (RB w (.bool false)))):Calls prog 173 #[.agg (V b)] w (RB w (.bool false)):=by
 go_enter func173,ntmps173;have hm:=Own.nil w
 go_wp2_with (first
 |(refine Ar hm rfl rfl rfl ?_;intro w1 g hm1;clear hm)
 |(refine Bd rfl rfl rfl (hm1.row 0 rfl) (F6 _ hl) (Ci hl) (NG hl) ?_)
 |(go_at_call 215;have _t:=hm1;refine (CV.out _).mono ?_;rintro e w2 ⟨rfl,hb2⟩;have hm2:=hm1.call hb2;clear hm1)
  )
 exact xd2
theorem dv_1 (b:DS) (w:World) (hl:b.l.length=256) (CV:Hid (∀ w,Calls prog 215 #[.agg (B b.l)] w (RB w (.bool true)))) (h1:b.left < 0):Calls prog 173 #[.agg (V b)] w (RB w (.bool false)):=by
 have q1:decide (b.left < 0)=true:=decide_eq_true h1;exact xbw
theorem dv_2 (b:DS) (w:World) (hl:b.l.length=256) (CV:Hid (∀ w,Calls prog 215 #[.agg (B b.l)] w (RB w (.bool true)))) (h1:¬ b.left < 0) (h2:65536 < b.left):Calls prog 173 #[.agg (V b)] w (RB w (.bool false)):=by
 have q1:decide (b.left < 0)=false:=decide_eq_false h1;have q2:decide (65536 < b.left)=true:=decide_eq_true h2;exact xbw
theorem dv_3 (b:DS) (w:World) (hl:b.l.length=256) (CV:Hid (∀ w,Calls prog 215 #[.agg (B b.l)] w (RB w (.bool true)))) (h1:¬ b.left < 0) (h2:¬ 65536 < b.left) (h3:b.run < 0):Calls prog 173 #[.agg (V b)] w (RB w (.bool false)):=by
 have q1:decide (b.left < 0)=false:=decide_eq_false h1;have q2:decide (65536 < b.left)=false:=decide_eq_false h2;have q3:decide (b.run < 0)=true:=decide_eq_true h3;exact xbo
theorem dv_4 (b:DS) (w:World) (hl:b.l.length=256) (CV:Hid (∀ w,Calls prog 215 #[.agg (B b.l)] w (RB w (.bool true)))) (h1:¬ b.left < 0) (h2:¬ 65536 < b.left) (h3:¬ b.run < 0) (h4:b.left < b.run):Calls prog 173 #[.agg (V b)] w (RB w (.bool false)):=by
 have q1:decide (b.left < 0)=false:=decide_eq_false h1;have q2:decide (65536 < b.left)=false:=decide_eq_false h2;have q3:decide (b.run < 0)=false:=decide_eq_false h3;have q4:decide (b.left < b.run)=true:=decide_eq_true h4;exact xbo
theorem dv_5 (b:DS) (w:World) (hl:b.l.length=256) (CV:Hid (∀ w,Calls prog 215 #[.agg (B b.l)] w (RB w (.bool true)))) (h1:¬ b.left < 0) (h2:¬ 65536 < b.left) (h3:¬ b.run < 0) (h4:¬ b.left < b.run) (h5:b.dig < 0):Calls prog 173 #[.agg (V b)] w (RB w (.bool false)):=by
 have q1:decide (b.left < 0)=false:=decide_eq_false h1;have q2:decide (65536 < b.left)=false:=decide_eq_false h2;have q3:decide (b.run < 0)=false:=decide_eq_false h3;have q4:decide (b.left < b.run)=false:=decide_eq_false h4;have q5:decide (b.dig < 0)=true:=decide_eq_true h5;exact xas
theorem dv_6 (b:DS) (w:World) (hl:b.l.length=256) (CV:Hid (∀ w,Calls prog 215 #[.agg (B b.l)] w (RB w (.bool true)))) (h1:¬ b.left < 0) (h2:¬ 65536 < b.left) (h3:¬ b.run < 0) (h4:¬ b.left < b.run) (h5:¬ b.dig < 0) (h6:16 < b.dig):Calls prog 173 #[.agg (V b)] w (RB w (.bool false)):=by
 have q1:decide (b.left < 0)=false:=decide_eq_false h1;have q2:decide (65536 < b.left)=false:=decide_eq_false h2;have q3:decide (b.run < 0)=false:=decide_eq_false h3;have q4:decide (b.left < b.run)=false:=decide_eq_false h4;have q5:decide (b.dig < 0)=false:=decide_eq_false h5;have q6:decide (16 < b.dig)=true:=decide_eq_true h6;exact xas
theorem A0q (b:DS) (w:World) (hl:b.l.length=256) (CV:Hid (∀ w,Calls prog 215 #[.agg (B b.l)] w (RB w (.bool true)))) (h1:¬ b.left < 0) (h2:¬ 65536 < b.left) (h3:¬ b.run < 0) (h4:¬ b.left < b.run) (h5:¬ b.dig < 0) (h6:¬ 16 < b.dig) (h7:b.run < 2 ^ b.dig.toNat - 1):Calls prog 173 #[.agg (V b)] w (RB w (.bool false)):=by
 obtain ⟨k,hk⟩:=Int.eq_ofNat_of_zero_le (show 0<=b.dig by omega);have hp:=KF k (by omega);have w1:wrap64 (2 ^ k:Int)=2 ^ k:=w64 (by omega);have w2:wrap64 ((2:Int) ^ k - 1)=2 ^ k - 1:=w64 (by omega);have w3:wrap64 (2 * ((2:Int) ^ k - 1))=2 * (2 ^ k - 1):=w64 (by omega);have i1:IntKind.i64.wrap ((2:Int) ^ k - 1)=2 ^ k - 1:=i_6;have i2:IntKind.i64.wrap (2 * ((2:Int) ^ k - 1))=2 * (2 ^ k - 1):=i_6;have q1:decide (b.left < 0)=false:=decide_eq_false h1;have q2:decide (65536 < b.left)=false:=decide_eq_false h2;have q3:decide (b.run < 0)=false:=decide_eq_false h3;have q4:decide (b.left < b.run)=false:=decide_eq_false h4;have q5:decide (b.dig < 0)=false:=decide_eq_false h5;have q6:decide (16 < b.dig)=false:=decide_eq_false h6;rw [hk,Int.toNat_natCast] at h7;have q7:decide (b.run < (2:Int) ^ k - 1)=true:=decide_eq_true h7;have HK:=h_ hk
 clear hp;exact xas
theorem A0p (b:DS) (w:World) (hl:b.l.length=256) (CV:Hid (∀ w,Calls prog 215 #[.agg (B b.l)] w (RB w (.bool true)))) (h1:¬ b.left < 0) (h2:¬ 65536 < b.left) (h3:¬ b.run < 0) (h4:¬ b.left < b.run) (h5:¬ b.dig < 0) (h6:¬ 16 < b.dig) (h7:¬ b.run < 2 ^ b.dig.toNat - 1) (h8:2 * (2 ^ b.dig.toNat - 1) < b.run):Calls prog 173 #[.agg (V b)] w (RB w (.bool false)):=by
 obtain ⟨k,hk⟩:=Int.eq_ofNat_of_zero_le (show 0<=b.dig by omega);have hp:=KF k (by omega);have w1:wrap64 (2 ^ k:Int)=2 ^ k:=w64 (by omega);have w2:wrap64 ((2:Int) ^ k - 1)=2 ^ k - 1:=w64 (by omega);have w3:wrap64 (2 * ((2:Int) ^ k - 1))=2 * (2 ^ k - 1):=w64 (by omega);have i1:IntKind.i64.wrap ((2:Int) ^ k - 1)=2 ^ k - 1:=i_6;have i2:IntKind.i64.wrap (2 * ((2:Int) ^ k - 1))=2 * (2 ^ k - 1):=i_6;have q1:decide (b.left < 0)=false:=decide_eq_false h1;have q2:decide (65536 < b.left)=false:=decide_eq_false h2;have q3:decide (b.run < 0)=false:=decide_eq_false h3;have q4:decide (b.left < b.run)=false:=decide_eq_false h4;have q5:decide (b.dig < 0)=false:=decide_eq_false h5;have q6:decide (16 < b.dig)=false:=decide_eq_false h6;rw [hk,Int.toNat_natCast] at h7 h8;have q7:decide (b.run < (2:Int) ^ k - 1)=false:=decide_eq_false h7
 have q8:decide (2 * ((2:Int) ^ k - 1) < b.run)=true:=decide_eq_true h8;clear hp;exact xas
theorem A0o (b:DS) (w:World) (hl:b.l.length=256) (CV:Hid (∀ w,Calls prog 215 #[.agg (B b.l)] w (RB w (.bool true)))) (h1:¬ b.left < 0) (h2:¬ 65536 < b.left) (h3:¬ b.run < 0) (h4:¬ b.left < b.run) (h5:¬ b.dig < 0) (h6:¬ 16 < b.dig) (h7:¬ b.run < 2 ^ b.dig.toNat - 1) (h8:¬ 2 * (2 ^ b.dig.toNat - 1) < b.run) (h9:b.fin=false):Calls prog 173 #[.agg (V b)] w (RB w (.bool true)):=by
 obtain ⟨k,hk⟩:=Int.eq_ofNat_of_zero_le (show 0<=b.dig by omega);have hp:=KF k (by omega);have w1:wrap64 (2 ^ k:Int)=2 ^ k:=w64 (by omega);have w2:wrap64 ((2:Int) ^ k - 1)=2 ^ k - 1:=w64 (by omega);have w3:wrap64 (2 * ((2:Int) ^ k - 1))=2 * (2 ^ k - 1):=w64 (by omega);have i1:IntKind.i64.wrap ((2:Int) ^ k - 1)=2 ^ k - 1:=i_6;have i2:IntKind.i64.wrap (2 * ((2:Int) ^ k - 1))=2 * (2 ^ k - 1):=i_6;have q1:decide (b.left < 0)=false:=decide_eq_false h1;have q2:decide (65536 < b.left)=false:=decide_eq_false h2;have q3:decide (b.run < 0)=false:=decide_eq_false h3;have q4:decide (b.left < b.run)=false:=decide_eq_false h4;have q5:decide (b.dig < 0)=false:=decide_eq_false h5;have q6:decide (16 < b.dig)=false:=decide_eq_false h6;rw [hk,Int.toNat_natCast] at h7 h8;have q7:decide (b.run < (2:Int) ^ k - 1)=false:=decide_eq_false h7
 have q8:decide (2 * ((2:Int) ^ k - 1) < b.run)=false:=decide_eq_false h8;clear hp;go_enter func173,ntmps173;have hm:=Own.nil w
 go_wp2_with (first
 |(refine Ar hm rfl rfl rfl ?_;intro w1 g hm1;clear hm)
 |(refine Bd rfl rfl rfl (hm1.row 0 rfl) (F6 _ hl) (Ci hl) (NG hl) ?_)
 |(go_at_call 215;have _t:=hm1;refine (CV.out _).mono ?_;rintro e w2 ⟨rfl,hb2⟩;have hm2:=hm1.call hb2;clear hm1)
 |(refine A8 rfl (Aa (off:=256) rfl rfl (hm2.row 0 rfl) BG (H8 hl)) ?_)
 |(refine A8 rfl (Aa (off:=257) rfl rfl (hm2.row 0 rfl) BG (H7 hl)) ?_)
 |(refine A8 rfl (Aa (off:=258) rfl rfl (hm2.row 0 rfl) BG (MH hl)) ?_)
 |(refine A8 rfl (Aa (off:=259) rfl rfl (hm2.row 0 rfl) X3 (Qm hl)) ?_)
 |(refine Ag rfl rfl rfl (hm2.row 0 rfl) (BJ hl) ?_)
 |(refine Bd rfl rfl rfl (hm2.row 0 rfl) (F6 _ hl) (Ci hl) (NG hl) ?_)
 |(refine A8 rfl (Iu rfl rfl rfl hl) ?_))
 exact xd2
theorem A0n (b:DS) (w:World) (hl:b.l.length=256) (CV:Hid (∀ w,Calls prog 215 #[.agg (B b.l)] w (RB w (.bool true)))) (h1:¬ b.left < 0) (h2:¬ 65536 < b.left) (h3:¬ b.run < 0) (h4:¬ b.left < b.run) (h5:¬ b.dig < 0) (h6:¬ 16 < b.dig) (h7:¬ b.run < 2 ^ b.dig.toNat - 1) (h8:¬ 2 * (2 ^ b.dig.toNat - 1) < b.run) (h9:b.fin=true) (r:Bool) (DE:Hid (wQ b ⟨b.l,0,0,0,true⟩=r)):Calls prog 173 #[.agg (V b)] w (RB w (.bool r)):=by
 obtain ⟨k,hk⟩:=Int.eq_ofNat_of_zero_le (show 0<=b.dig by omega);have hp:=KF k (by omega);have w1:wrap64 (2 ^ k:Int)=2 ^ k:=w64 (by omega);have w2:wrap64 ((2:Int) ^ k - 1)=2 ^ k - 1:=w64 (by omega);have w3:wrap64 (2 * ((2:Int) ^ k - 1))=2 * (2 ^ k - 1):=w64 (by omega);have i1:IntKind.i64.wrap ((2:Int) ^ k - 1)=2 ^ k - 1:=i_6;have i2:IntKind.i64.wrap (2 * ((2:Int) ^ k - 1))=2 * (2 ^ k - 1):=i_6;have q1:decide (b.left < 0)=false:=decide_eq_false h1;have q2:decide (65536 < b.left)=false:=decide_eq_false h2;have q3:decide (b.run < 0)=false:=decide_eq_false h3;have q4:decide (b.left < b.run)=false:=decide_eq_false h4;have q5:decide (b.dig < 0)=false:=decide_eq_false h5;have q6:decide (16 < b.dig)=false:=decide_eq_false h6;rw [hk,Int.toNat_natCast] at h7 h8;have q7:decide (b.run < (2:Int) ^ k - 1)=false:=decide_eq_false h7
 have q8:decide (2 * ((2:Int) ^ k - 1) < b.run)=false:=decide_eq_false h8;clear hp;go_enter func173,ntmps173;have hm:=Own.nil w
 go_wp2_with (first
 |(refine Ar hm rfl rfl rfl ?_;intro w1 g hm1;clear hm)
 |(refine Bd rfl rfl rfl (hm1.row 0 rfl) (F6 _ hl) (Ci hl) (NG hl) ?_)
 |(go_at_call 215;have _t:=hm1;refine (CV.out _).mono ?_;rintro e w2 ⟨rfl,hb2⟩;have hm2:=hm1.call hb2;clear hm1)
 |(refine A8 rfl (Aa (off:=256) rfl rfl (hm2.row 0 rfl) BG (H8 hl)) ?_)
 |(refine A8 rfl (Aa (off:=257) rfl rfl (hm2.row 0 rfl) BG (H7 hl)) ?_)
 |(refine A8 rfl (Aa (off:=258) rfl rfl (hm2.row 0 rfl) BG (MH hl)) ?_)
 |(refine A8 rfl (Aa (off:=259) rfl rfl (hm2.row 0 rfl) X3 (Qm hl)) ?_)
 |(refine Ag rfl rfl rfl (hm2.row 0 rfl) (BJ hl) ?_)
 |(refine Bd rfl rfl rfl (hm2.row 0 rfl) (F6 _ hl) (Ci hl) (NG hl) ?_)
 |(refine A8 rfl (Iu rfl rfl rfl hl) ?_)
 |(refine A8 rfl (dY (c:=⟨b.l,0,0,0,true⟩) rfl rfl rfl hl hl DE.out) ?_))
 exact xd2
theorem eH (b:DS) (w:World) (hl:b.l.length=256) (hb:Bytes b.l):Calls prog 173 #[.agg (V b)] w (RB w (.bool (dOk b))):=by
 cases hv:vld b.l with
|false =>
  have e:dOk b=false:=by rw [dOk,hv];rfl
  rw [e];exact dv_v b w hl (h_ (fun w=>by rw [<- hv];exact P8 b.l w hl hb))
|true =>
  have CV:Hid (∀ w,Calls prog 215 #[.agg (B b.l)] w (RB w (.bool true))):=h_ (fun w=>by rw [<- hv];exact P8 b.l w hl hb);by_cases h:0<=b.left/\b.left<=65536/\0<=b.run/\b.run<=b.left/\0<=b.dig/\b.dig<=16/\((dg b.run.toNat).length:Int)=b.dig
  ·obtain ⟨a1,a2,a3,a4,a5,a6,a7⟩:=h;have hd:decide (0<=b.left/\b.left<=65536/\0<=b.run/\b.run<=b.left/\0<=b.dig/\b.dig<=16/\((dg b.run.toNat).length:Int)=b.dig)=true:=decide_eq_true ⟨a1,a2,a3,a4,a5,a6,a7⟩;have hq:=(Tc b.run.toNat b.dig.toNat).1 (by omega);have hp:0 < 2 ^ b.dig.toNat:=Nat.pow_pos (by omega);have ec:((2 ^ b.dig.toNat:Nat):Int)=(2:Int) ^ b.dig.toNat:=by push_cast;rfl
   have h7:¬ b.run < 2 ^ b.dig.toNat - 1:=by rw [<- ec];omega
   have h8:¬ 2 * (2 ^ b.dig.toNat - 1) < b.run:=by rw [<- ec];omega
   cases hf:b.fin with
  |false =>
    have e:dOk b=true:=by rw [dOk,hv,hd,hf];rfl
    rw [e];exact A0o b w hl CV (by omega) (by omega) (by omega) (by omega) (by omega) (by omega) h7 h8 hf
  |true =>
    have e:dOk b=wQ b ⟨b.l,0,0,0,true⟩:=by
     rw [dOk,hv,hd,hf,wQ,hf];simp only [beq_self_eq_true,Bool.true_and,Bool.and_true,Bool.not_true,Bool.false_or];by_cases z1:b.left=0<;>by_cases z2:b.run=0<;>by_cases z3:b.dig=0<;>simp [z1,z2,z3]
    rw [e];exact A0n b w hl CV (by omega) (by omega) (by omega) (by omega) (by omega) (by omega) h7 h8 hf _ rfl
  ·have e:dOk b=false:=by rw [dOk,hv,decide_eq_false h];rfl
   rw [e];by_cases h1:b.left < 0
   ·exact dv_1 b w hl CV h1
   by_cases h2:65536 < b.left
   ·exact dv_2 b w hl CV h1 h2
   by_cases h3:b.run < 0
   ·exact dv_3 b w hl CV h1 h2 h3
   by_cases h4:b.left < b.run
   ·exact dv_4 b w hl CV h1 h2 h3 h4
   by_cases h5:b.dig < 0
   ·exact dv_5 b w hl CV h1 h2 h3 h4 h5
   by_cases h6:16 < b.dig
   ·exact dv_6 b w hl CV h1 h2 h3 h4 h5 h6
   by_cases h7:b.run < 2 ^ b.dig.toNat - 1
   ·exact A0q b w hl CV h1 h2 h3 h4 h5 h6 h7
   by_cases h8:2 * (2 ^ b.dig.toNat - 1) < b.run
   ·exact A0p b w hl CV h1 h2 h3 h4 h5 h6 h7 h8
   refine absurd ⟨by omega,by omega,by omega,by omega,by omega,by omega,?_⟩ h;have hp:0 < 2 ^ b.dig.toNat:=Nat.pow_pos (by omega);have ec:((2 ^ b.dig.toNat:Nat):Int)=(2:Int) ^ b.dig.toNat:=by push_cast;rfl
   have:=(Tc b.run.toNat b.dig.toNat).2 (by rw [<- ec] at h7 h8;omega);omega
variable {a:Act} {ad:Addr} {ops:O_} {cs:A_} {Q:Exit->P_} {l:I_} {rest:Q_} {ss:List Sl} {news xs:L_} {base base' bytes c g m n:Nat} {o:Oper} {x y:Operand} {P:Program} {rs:Rws} {e t ty:TypeId} {i:TypeInfo} {z:Value} {w w' w0:World} {S:World->Prop}
theorem Ux (hm:Own w0 w rs ss) (hgd:Region.wanted o (yielded ops a.tmps)=true) (ho:o.op=.call { callee:=.builtin .append,args:=#[x,y],argTypes:=#[t,t] }) (he:Gv P t e i z bytes)
  (hx:a.eval x=.slice (some ad) n n) (hn:xs.length=n) (hold:∀ j u,xs[j]?=some u->w.cell? (ad.add j)=some u) {bd:Addr} (hy:a.eval y=.slice (some bd) m c) (hm':news.length=m) (hnew:∀ j u,news[j]?=some u->w.cell? (bd.add j)=some u)
  (h0:0 < m) (hb:(n+m) * bytes<=140737488355328) (hb0:n+m<=140737488355328)
  (h:∀ ad c w',Own w0 w' rs ((.slice ad (n+m) c,e,xs++news)::ss)->wpList P ops Q rest (a.put o.dst (.slice ad (n+m) c)) w') (hq:e < Ey:=by first|assumption|(simp [Ey];done)):wpList P ops Q (o::rest) a w:=by
 have hr:=run_append_grow (P:=P) w t o.type e i z he.under he.info he.zero ad n n xs (by rw [he.size,hn,Nat.mul_one]) hold bd m c news (by rw [he.size,hm',Nat.mul_one]) hnew (by omega) (by omega) (by rw [he.bytes];exact growslice_fits (by omega) hb);obtain ⟨g1,g2⟩:=tu (w:=w) (base:=w.heap.size) (e:=e) (xs:=xs) (news:=news) (z:=z) (n:=n) (k:=m) (old:=n) (Nat.le_refl _) hn hm' (by simp only [maxLen];omega) none;rw [he.cell] at hr
 have hown:Own w0 (w.drew.alloc (.cells (xs.toArray++news.toArray++Builtin.zeroCells #[z] (grownCap w (n+m) n e - (n+m))) e)) rs ((.slice (some ⟨w.heap.size,0,none⟩) (n+m) (grownCap w (n+m) n e),e,xs++news)::ss) :=
  hm.fG ((Below.refl _ w).grown g2 (Nat.le_refl _) (fun k hk=>by cases hk)) (by rw [List.length_append,hn,hm'];exact g1) hq
 refine A8 hgd ?_ (h _ _ _ hown);exact xco
def DS.rep (b:DS):I_:=List.replicate b.run.toNat (gi b.l 0)
theorem run_any (b:DS) (w:World) (hl:b.l.length=256) (h0:0<=b.run) (h1:b.run<=65536):Calls prog 217 #[.agg (V b)] w (FI w b.rep):=by
 obtain ⟨k,hk⟩:=Int.eq_ofNat_of_zero_le h0
 have CR:Hid (∀ (g:Nat) (W:World),AA W g (V b)->Calls prog 251 #[.slice (some ⟨g,0,none⟩) 1 256,.int .i64 b.run] W (FI W b.rep)):=h_ (fun g W hg=>by
  have h:=Rz (gi b.l 0) _ k W (by omega) ⟨g,0,none⟩ 256 rfl (by rw [hg.cell,getV0 hl 0 (by omega)]);rw [hk,DS.rep,hk,Int.toNat_natCast]
  exact h)
 clear h0 h1 hk;go_enter func217,ntmps217;have hm:=Own.nil w
 go_wp2_with (first
 |(refine Ar hm rfl rfl rfl ?_;intro w1 g hm1;clear hm))
 refine D7 [(0,true),(1,true),(2,true),(3,true),(4,false),(5,true)] (fun W=>Below w.heap.size w W/\AA W g (V b)) rfl (by kernel_rfl) rfl (by kernel_rfl) (fun _ _ d _ _ h=>by cases d<;>exact h) ⟨(hm1.drawn (w1.drawn+1)).below,(hm1.drawn (w1.drawn+1)).row 0 rfl⟩ ?_;have hn:=hm1.drawn (w1.drawn+1);generalize ({ w1 with drawn:=w1.drawn+1 }:World)=wn at hn ⊢;refine Ah rfl rfl (fun W hW=>by go_simp;rfl) ?_;simp only [Act.put,s3];refine Ah rfl rfl (fun W hW=>Iq rfl underlying145 sz5 rfl 0 1 (.inl ⟨rfl,rfl⟩) (.inr ⟨1,rfl,rfl⟩) (by omega) (by omega) (by omega) rfl rfl rfl) ?_;simp only [Act.put,s3];refine Ah rfl rfl (fun W hW=>by go_simp;rfl) ?_;simp only [Act.put,s3];refine Ah rfl rfl (fun W hW=>Aa (off:=257) rfl rfl hW.2 BG (H7 hl)) ?_;simp only [Act.put,s3];refine iL rfl rfl (fun K hK=>?_);go_simp;refine (CR.out _ _ (hn.row 0 rfl)).mono ?_;rintro e v1 ⟨⟨gT,cells,rfl,hrT,hgT,htT⟩,hb1⟩
 have k1:=hn.QW hb1 hrT hgT;clear hn;refine hK _ _ ⟨_,fun _ h=>h,⟨k1.below,k1.row 1 rfl⟩,?_⟩;clear hK K;refine Ah rfl rfl (fun W hW=>by go_simp;rfl) ?_;simp only [Act.put,s3];refine IY ?_;go_simp;go_wp2;go_ret;exact ⟨⟨gT,cells,rfl,k1.row 0 rfl,k1.mem.own _ (List.mem_cons_self ..),htT⟩,k1.below⟩
def G9 (b:DS) (s:Int):DS × I_ × Bool :=
 if s=0\/s=1 then ({ b with run:=OJ b.run b.dig s,dig:=b.dig+1 },[],decide (OJ b.run b.dig s<=b.left))
 else if s=257 then (⟨b.l,0,0,0,true⟩,b.rep,decide (b.run=b.left))
 else if b.run=b.left then (b,[],false)
 else (⟨Ie b.l (s - 1),b.left - (b.run+1),0,0,false⟩,b.rep++[takeC b.l (s - 1)],true)
def IG (base:Nat) (w:World) (v:Value) (xs:L_):Prop:=(v=.slice none 0 0/\xs=[])\/∃ g c cells,v=.slice (some ⟨g,0,none⟩) xs.length c/\base<=g/\AA w g cells/\cells.toList.take xs.length=xs
theorem Ya {cells:A_} (h:AA w g cells) (ht:cells.toList.take xs.length=xs):∀ j u,xs[j]?=some u->w.cell? ((⟨g,0,none⟩:Addr).add j)=some u:=by
 intro j u hj;refine Iz h j ?_;have hlt:j < xs.length:=(List.getElem?_eq_some_iff.1 hj).1;rw [<- a_g,<- List.getElem?_take_of_lt hlt,ht,hj]
theorem IG.Yo {v:Value} (h:w.ownsRow base e 1 v xs.length xs):IG base w v xs:=by
 rcases h.2 with ⟨rfl,h0⟩|⟨g,cap,cur,rfl,hg,h1,_,_,_,h2⟩
 ·exact .inl ⟨rfl,List.length_eq_zero_iff.1 h0⟩
 ·exact .inr ⟨g,cap,cur,rfl,hg,⟨e,h1⟩,by rwa [Nat.mul_one] at h2⟩
theorem IG.mono {v:Value} (h:IG base w v xs) (hb:base'<=base):IG base' w v xs:=by
 rcases h with h|⟨g,c,cells,h0,h1,hc⟩
 ·exact .inl h
 ·exact .inr ⟨g,c,cells,h0,Nat.le_trans hb h1,hc⟩
theorem IG.setRow {base:Nat} {w:World} {v:Value} {xs:L_} (h:IG base w v xs) {g:Nat} (hg:g < base) (cs:A_):IG base (w.setRow g cs) v xs:=by
 rcases h with h|⟨k,c,cells,h0,h1,h2,h3⟩
 ·exact .inl h
 ·exact .inr ⟨k,c,cells,h0,h1,h2.of_block (setRow_other w g _ cs (by omega)),h3⟩
theorem IG.shape {v:Value} (h:IG base w v (vs .u8 l)):∃ a c,v=.slice a l.length c:=by
 rcases h with ⟨rfl,h0⟩|⟨g,c,cells,rfl,_⟩
 ·have:=congrArg List.length h0;rw [Ai] at this;exact ⟨none,0,by rw [this];rfl⟩
 ·exact ⟨_,c,by rw [Ai]⟩
def Txt (X:Rws) (v:Value) (xs:L_):Prop:=(v=.slice none 0 0/\xs=[]/\X=[])\/∃ g c cells,X=[(g,cells)]/\v=.slice (some ⟨g,0,none⟩) xs.length c/\cells.toList.take xs.length=xs
theorem Own.Ox {v:Value} (h:Own w0 w rs ss) (hb:Below w.heap.size w w') (hs:IG w.heap.size w' v xs):∃ X,Txt X v xs/\Own w0 w' (X++rs) ss:=by
 rcases hs with ⟨h1,h2⟩|⟨g,c,cells,h1,hg,h2,h3⟩
 ·exact ⟨[],.inl ⟨h1,h2,rfl⟩,h.call hb⟩
 ·exact ⟨[(g,cells)],.inr ⟨g,c,cells,rfl,h1,h3⟩,h.QW hb h2 hg⟩
theorem Txt.src {X:Rws} {v:Value} (h:Txt X v xs) (hm:Own w0 w (X++rs) ss):Src w v xs:=by
 rcases h with ⟨h1,h2,_⟩|⟨g,c,cells,rfl,h1,h3⟩
 ·exact .inl ⟨h1,h2⟩
 ·exact .inr ⟨_,c,h1,Ya (hm.row 0 rfl) h3⟩
def JY (w:World) (o:DS) (t:I_) (f:Bool) (x:Ending) (w':World):Prop:=(∃ v,x=.returned (.tuple #[.agg (V o),v,.bool f])/\IG w.heap.size w' v (vs .u8 t))/\Below w.heap.size w w'
theorem JE {i:Nat} {r:List (Nat × Bool)} (j:Nat) (hm:Own w0 w rs ss) (ho:ops.toList[i]?=some o) (hw:Region.wanted o (yielded ops a.tmps)=true) (hop:o.op=.store ty x y) (hx:a.eval x=.pointer (some ⟨g,0,none⟩)) {vs:A_} (hy:a.eval y=.agg vs)
  (hi:rs[j]?=some (g,cs)) (ht:Aq P ty vs.size) (hs:vs.size=cs.size) (h1:∀ v ∈ vs,v.oneCell'=true)
  (hS:∀ w',Own w0 w' (rs.set j (g,vs)) ss->S w') (h:∀ w',Own w0 w' (rs.set j (g,vs)) ss->Ej P ops Q r S (a.put o.dst undef) w'):Ej P ops Q ((i,false)::r) S a w :=
 Yk j hm (by rw [<- a_g];exact ho) hw hop hx hy hi ht hs h1 hS h
theorem A1O (b:DS) (w:World) (hl:b.l.length=256) (hd0:0<=b.dig) (hd1:b.dig<=100):Calls prog 174 #[.agg (V b),.int .i64 0] w (JY w { b with run:=OJ b.run b.dig 0,dig:=b.dig+1 } [] (decide (OJ b.run b.dig 0<=b.left))):=by
 have CA:Hid (∀ w,Calls prog 216 #[.int .i64 b.run,.int .i64 b.dig,.int .i64 0] w (Ed w (OJ b.run b.dig 0) (ZU b.run b.dig 0))):=fun w=>add_any b.run b.dig 0 w;generalize OJ b.run b.dig 0=N at *;generalize ZU b.run b.dig 0=E at *;exact xaj
theorem A1N (b:DS) (w:World) (hl:b.l.length=256) (hd0:0<=b.dig) (hd1:b.dig<=100):Calls prog 174 #[.agg (V b),.int .i64 1] w (JY w { b with run:=OJ b.run b.dig 1,dig:=b.dig+1 } [] (decide (OJ b.run b.dig 1<=b.left))):=by
 have CA:Hid (∀ w,Calls prog 216 #[.int .i64 b.run,.int .i64 b.dig,.int .i64 1] w (Ed w (OJ b.run b.dig 1) (ZU b.run b.dig 1))):=fun w=>add_any b.run b.dig 1 w;generalize OJ b.run b.dig 1=N at *;generalize ZU b.run b.dig 1=E at *;exact xaj
theorem rD (b:DS) (w:World) (hl:b.l.length=256) (h0:0<=b.run) (h1:b.run<=65536):Calls prog 174 #[.agg (V b),.int .i64 257] w (JY w ⟨b.l,0,0,0,true⟩ b.rep (decide (b.run=b.left))):=by
 have CR:Hid (∀ w,Calls prog 217 #[.agg (V b)] w (FI w b.rep)):=fun w=>run_any b w hl h0 h1;have l2:(⟨b.l,0,0,0,true⟩:DS).l.length=256:=hl;have EB:Hid (∀ r:Bool,(b.run == b.left)=r->decide (b.run=b.left)=r):=h_ (fun r h=>by rw [<- h];rfl);generalize hrep:b.rep=R at *;clear hrep h0 h1;go_enter func174,ntmps174;have hm:=Own.nil w
 go_wp2_with (first
 |(refine Ar hm rfl rfl rfl ?_;intro w1 g hm1;clear hm)
 |(refine AL hm1 rfl rfl Dc ?_;intro w2 g2 hm2;clear hm1))
 refine D7 [(0,true),(1,true),(2,true),(3,true),(5,true),(6,true),(7,true),(8,true),(9,true),(4,false),(10,false),(11,true),(12,true)] (fun W=>Below w.heap.size w W/\AA W g (V b)) rfl (by kernel_rfl) rfl (by kernel_rfl) (fun _ _ d _ _ h=>by cases d<;>exact h) ⟨(hm2.drawn (w2.drawn+1)).below,(hm2.drawn (w2.drawn+1)).row 1 rfl⟩ ?_;have hn:=hm2.drawn (w2.drawn+1);generalize ({ w2 with drawn:=w2.drawn+1 }:World)=wn at hn ⊢;refine Ah rfl rfl (fun W hW=>by go_simp;rfl) ?_;simp only [Act.put,s3];refine Ah rfl rfl (fun W hW=>TD rfl rfl hW.2 (F6 _ hl) (Ci hl) (NG hl)) ?_;simp only [Act.put,s3];refine Ah rfl rfl (fun W hW=>Iu rfl rfl rfl hl) ?_;simp only [Act.put,s3];refine Ah rfl rfl (fun W hW=>Du rfl rfl hW.2 (BJ hl)) ?_;simp only [Act.put,s3];refine Ah rfl rfl (fun W hW=>by go_simp;rfl) ?_;simp only [Act.put,s3];refine Ah rfl rfl (fun W hW=>Aa (off:=257) rfl rfl hW.2 BG (H7 hl)) ?_
 simp only [Act.put,s3];refine Ah rfl rfl (fun W hW=>by go_simp;rfl) ?_;simp only [Act.put,s3];refine Ah rfl rfl (fun W hW=>Aa (off:=256) rfl rfl hW.2 BG (H8 hl)) ?_;simp only [Act.put,s3];refine Ah rfl rfl (fun W hW=>by go_simp;rfl) ?_;simp only [Act.put,s3];refine iL rfl rfl (fun K hK=>?_);go_simp;refine (CR.out _).mono ?_;rintro e v1 ⟨⟨gT,cells,rfl,hrT,hgT,htT⟩,hb1⟩;have k1:=hn.QW hb1 hrT hgT;clear hn;refine hK _ _ ⟨_,fun _ h=>h,⟨k1.below,k1.row 2 rfl⟩,?_⟩;clear hK K
 try simp only [Act.put,s3]
 refine JE 1 k1 rfl rfl rfl rfl rfl rfl (BJ (b:=⟨b.l,0,0,0,true⟩) l2) (BR (b:=⟨b.l,0,0,0,true⟩) l2 BF) (A35 _) (fun w' h=>⟨h.below,h.row 2 rfl⟩) (fun w6 hm6=>?_);simp only [Act.put];simp only [List.set] at hm6;refine Ah rfl rfl (fun W hW=>by go_simp;rfl) ?_;simp only [Act.put,s3];refine Ah rfl rfl (fun W hW=>by go_simp;rfl) ?_;simp only [Act.put,s3];refine IY ?_;go_simp;go_wp2;refine b_r (Ae rfl rfl (hm6.row 1 rfl) (BJ (b:=⟨b.l,0,0,0,true⟩) l2)) rfl ?_;refine ⟨⟨_,?_,.inr ⟨gT,R.length,cells,by rw [Ai],hm6.mem.own _ (List.mem_cons_self ..),hm6.row 0 rfl,by rw [Ai];exact htT⟩⟩,hm6.below⟩;show Ending.returned (Value.tuple #[_,_,Value.bool _])=_;rfl
variable {k:Int} {ss:List Sl} {xs:L_} {n:Nat} {a b c p q r s t:Nat × A_} {o:Oper} {x y:Operand} {ad:Option Addr} {rs:Rws} {w w' w0:World}
theorem Own.TW {d:Nat × A_} {v:Value} (h:Own w0 w (a::b::c::d::rs) ss) (hb:Below w.heap.size w w') (hs:IG w.heap.size w' v xs):∃ X,Txt X v xs/\Own w0 w' (a::b::c::d::(X++rs)) ss:=by
 obtain ⟨X,h1,h2⟩:=h.Ox hb hs;refine ⟨X,h1,h2.perm ?_⟩
 have e:(X++([a,b,c,d]++rs)).Perm ([a,b,c,d]++(X++rs)):=by
  exact xcq
 exact e.symm
theorem Own.unf4 (h:Own w0 w (t::p::q::r::s::rs) ss):Own w0 w (p::q::r::s::t::rs) ss:=h.perm (List.perm_middle (l₁:=[p,q,r,s]))
theorem Rt:(V DS0).size=260:=by rw [FT BF]
theorem MK {a:Act} (ho:o.op=.build 76 #[(0,x),(3,y)]) {c:Nat} (hx:a.eval x=.int .u8 k) (hy:a.eval y=.slice ad n c):(execOp a.eval o).run prog w=.ok (.value (.agg (EVT k 0 0 0 0 (.slice ad n c) 0))) w :=
 Dq ho (by simp only [l_y,List.map_cons,List.map_nil,hx,hy];kernel_rfl)
theorem Wx (gp:Nat) (c sy:Int) (c0:0<=c) (c1:c<=1) (pr:Value) (pt hs ms ts cs ds er:A_) (RR:Rws) (w0 w:World) (ss:List Sl) (hm:Own w0 w ((gp,PR pt hs ms ts cs ds er)::RR) ss) (Q:Rws->Prop) (CT:Hid (∀ W g,Own w0 W (g::(gp,PR pt hs ms ts cs ds er)::RR) ss->Calls prog 124 #[.pointer (some ⟨gp,0,none⟩),pr,.int .i64 1] W fun x w'=>(x=.returned (.tuple #[.int .u32 c,.agg (EVT 0 0 0 0 0 (.slice none 0 0) 0),.bool true]))/\∃ RR',Q RR'/\Own w0 w' (g::(gp,PR pt hs ms ts cs ds er)::RR') ss)) (cs2:A_) (CF:Hid (∀ w,Calls prog 129 #[.agg cs,.int .i64 c] w (RB w (.tuple #[.agg cs2,.int .i64 sy,.bool false])))) (hz:PRz pt hs ms ts cs ds er) (kc:cs2.size=260) (oc:∀ v ∈ cs2,v.oneCell'=true) :Calls prog 84 #[.pointer (some ⟨gp,0,none⟩),pr] w fun x w'=>(x=.returned (.tuple #[.agg (EVT 0 0 0 0 0 (.slice none 0 0) 0),.bool false]))/\∃ RR',Q RR'/\Own w0 w' ((gp,PR pt hs ms ts cs2 ds er)::RR') ss:=by
 have HZ:=h_ hz;have HC:Hid (PRz pt hs ms ts cs2 ds er):=h_ (hz.cs_ kc);have KC:=h_ kc;have OC:=h_ oc;have w1:IntKind.i64.wrap c=c:=i_6;clear hz c0 c1 kc oc;go_enter func84,ntmps84
 go_wp2_with (first
  |(go_at_call 124;have _t:=hm;refine (CT.out _ _ hm).mono ?_;clear _t hm CT;rintro x w ⟨rfl,RR2,hQ,hm⟩)
  |(go_at_call 129;refine cB (CF.out _) hm ?_;clear hm;intro w1 hm)
  |(with_reducible first|(refine wa 76 hm BX ?_;clear hm;intro w g hm)|(refine wa 143 hm QA ?_;clear hm;intro w g9 hm))
  |(with_reducible refine gLd (t:=143) ?_;(first|(refine A8 rfl (ldp 2 hm rfl rfl rfl (LU HZ.out) HZ.out.L6 (LX HZ.out)) ?_)|(refine A8 rfl (lda 0 hm rfl rfl rfl HC.out.L6) ?_)))
  |(with_reducible refine gSt (t:=143) ?_;(first|(refine Ad rfl (Aw 0 hm rfl rfl (Ac rfl) rfl HC.out.L6 (by rw [KC.out,OY]) OC.out ?_);clear hm;intro w hm;try simp only [puts,s2,List.set] at hm)|(refine Ad rfl (Aj 3 hm rfl rfl (Ac rfl) rfl HC.out.L6 (by rw [Bg HZ.out,KC.out];decide) OC.out (Jy HZ.out KC.out) ?_);clear hm;intro w hm;try simp only [puts,s2,List.set] at hm)))
  |(with_reducible (first|refine ws 76 0 hm ?_ (h1:=c_z (Ak _ _ _ _ _ rfl _))|refine ws 76 2 hm ?_ (h1:=c_z (Ak _ _ _ _ _ rfl _)));clear hm;intro w hm)
  |(with_reducible refine wla 76 1 hm ?_))
 exact xa4
theorem Wv (gp:Nat) (c sy:Int) (c0:0<=c) (c1:c<=1) (pr:Value) (pt hs ms ts cs ds er:A_) (RR:Rws) (w0 w:World) (ss:List Sl) (hm:Own w0 w ((gp,PR pt hs ms ts cs ds er)::RR) ss) (Q:Rws->Prop) (CT:Hid (∀ W g,Own w0 W (g::(gp,PR pt hs ms ts cs ds er)::RR) ss->Calls prog 124 #[.pointer (some ⟨gp,0,none⟩),pr,.int .i64 1] W fun x w'=>(x=.returned (.tuple #[.int .u32 c,.agg (EVT 0 0 0 0 0 (.slice none 0 0) 0),.bool true]))/\∃ RR',Q RR'/\Own w0 w' (g::(gp,PR pt hs ms ts cs ds er)::RR') ss)) (cs2:A_) (CF:Hid (∀ w,Calls prog 129 #[.agg cs,.int .i64 c] w (RB w (.tuple #[.agg cs2,.int .i64 sy,.bool true])))) (hz:PRz pt hs ms ts cs ds er) (kc:cs2.size=260) (oc:∀ v ∈ cs2,v.oneCell'=true) (ds2:A_) (T:I_) (hT:T.length<=1000000) (CE:Hid (∀ w,Calls prog 130 #[.agg ds,.int .i64 sy] w fun x w'=>(∃ v,x=.returned (.tuple #[.agg ds2,v,.bool false,.int .i64 0])/\IG w.heap.size w' v (vs .u8 T))/\Below w.heap.size w w')) (kd:ds2.size=260) (od:∀ v ∈ ds2,v.oneCell'=true):Calls prog 84 #[.pointer (some ⟨gp,0,none⟩),pr] w fun x w'=>∃ v X RR',x=.returned (.tuple #[.agg (EVT 4 0 0 0 0 v 0),.bool (decide (0 < T.length))])/\Txt X v (vs .u8 T)/\Q RR'/\Own w0 w' ((gp,PR pt hs ms ts cs2 ds2 er)::(X++RR')) ss:=by
 have HZ:=h_ hz;have HC:Hid (PRz pt hs ms ts cs2 ds er):=h_ (hz.cs_ kc);have KC:=h_ kc;have OC:=h_ oc;have w1:IntKind.i64.wrap c=c:=i_6;clear hz c0 c1 kc oc;have HD:Hid (PRz pt hs ms ts cs2 ds2 er):=h_ (HC.out.ds_ kd);have KD:=h_ kd;have OD:=h_ od;clear kd od;go_enter func84,ntmps84
 go_wp2_with (first
  |(go_at_call 124;have _t:=hm;refine (CT.out _ _ hm).mono ?_;clear _t hm CT;rintro x w ⟨rfl,RR2,hQ,hm⟩)
  |(go_at_call 129;refine cB (CF.out _) hm ?_;clear hm;intro w1 hm)
  |(with_reducible first|(refine wa 76 hm BX ?_;clear hm;intro w g hm)|(refine wa 143 hm QA ?_;clear hm;intro w g9 hm))
  |(with_reducible refine gLd (t:=143) ?_;(first|(refine A8 rfl (ldp 2 hm rfl rfl rfl (LU HZ.out) HZ.out.L6 (LX HZ.out)) ?_)|(refine A8 rfl (lda 0 hm rfl rfl rfl HC.out.L6) ?_)))
  |(with_reducible refine gSt (t:=143) ?_;(first|(refine Ad rfl (Aw 0 hm rfl rfl (Ac rfl) rfl HC.out.L6 (by rw [KC.out,OY]) OC.out ?_);clear hm;intro w hm;try simp only [puts,s2,List.set] at hm)|(refine Ad rfl (Aj 3 hm rfl rfl (Ac rfl) rfl HC.out.L6 (by rw [Bg HZ.out,KC.out];decide) OC.out (Jy HZ.out KC.out) ?_);clear hm;intro w hm;try simp only [puts,s2,List.set] at hm)))
  |(go_at_call 130;have _t:=hm;refine (CE.out _).mono ?_;clear _t;rintro x w1 ⟨⟨v,rfl,hs⟩,hb⟩;obtain ⟨ad,cc,rfl⟩:=hs.shape;obtain ⟨X,hX,hm'⟩:=hm.TW hb hs;clear hm hs hb;have hm:=hm';clear hm')
  |(with_reducible refine wa 147 hm Dc ?_;clear hm;intro w g12 hm)
  |(with_reducible refine gLd (t:=147) ?_;(first|(refine A8 rfl (ldp 3 hm rfl rfl rfl (Q7 HC.out) HC.out.Ud (Qb HC.out)) ?_)|(refine A8 rfl (lda 0 hm rfl rfl rfl HD.out.Ud) ?_)))
  |(with_reducible refine gSt (t:=147) ?_;(first|(refine Ad rfl (Aw 0 hm rfl rfl (Ac rfl) rfl HD.out.Ud (by rw [KD.out,Rt]) OD.out ?_);clear hm;intro w hm;try simp only [puts,s2,List.set] at hm)|(refine Ad rfl (Aj 4 hm rfl rfl (Ac rfl) rfl HD.out.Ud (by rw [Bg HC.out,KD.out];decide) OD.out (Q8 HC.out KD.out) ?_);clear hm;intro w hm;try simp only [puts,s2,List.set] at hm)))
  |(with_reducible refine gBu (t:=76) ?_;(refine A8 rfl (MK rfl rfl rfl) ?_))
  |(with_reducible (first|refine ws 76 0 hm ?_ (h1:=c_z (Ak _ _ _ _ _ rfl _))|refine ws 76 3 hm ?_ (h1:=c_z (Ak _ _ _ _ _ rfl _)));clear hm;intro w hm)
   )
 exact xdk
theorem XV (gp:Nat) (c sy:Int) (c0:0<=c) (c1:c<=1) (pr:Value) (pt hs ms ts cs ds er:A_) (RR:Rws) (w0 w:World) (ss:List Sl) (hm:Own w0 w ((gp,PR pt hs ms ts cs ds er)::RR) ss) (Q:Rws->Prop) (CT:Hid (∀ W g,Own w0 W (g::(gp,PR pt hs ms ts cs ds er)::RR) ss->Calls prog 124 #[.pointer (some ⟨gp,0,none⟩),pr,.int .i64 1] W fun x w'=>(x=.returned (.tuple #[.int .u32 c,.agg (EVT 0 0 0 0 0 (.slice none 0 0) 0),.bool true]))/\∃ RR',Q RR'/\Own w0 w' (g::(gp,PR pt hs ms ts cs ds er)::RR') ss)) (cs2:A_) (CF:Hid (∀ w,Calls prog 129 #[.agg cs,.int .i64 c] w (RB w (.tuple #[.agg cs2,.int .i64 sy,.bool true])))) (hz:PRz pt hs ms ts cs ds er) (kc:cs2.size=260) (oc:∀ v ∈ cs2,v.oneCell'=true) (ds2:A_) (T:I_) (hT:T.length<=1000000) (CE:Hid (∀ w,Calls prog 130 #[.agg ds,.int .i64 sy] w fun x w'=>(∃ v,x=.returned (.tuple #[.agg ds2,v,.bool true,.int .i64 0])/\IG w.heap.size w' v (vs .u8 T))/\Below w.heap.size w w')) (kd:ds2.size=260) (od:∀ v ∈ ds2,v.oneCell'=true):Calls prog 84 #[.pointer (some ⟨gp,0,none⟩),pr] w fun x w'=>∃ v X RR',x=.returned (.tuple #[.agg (EVT 4 0 0 0 0 v 0),.bool (decide (0 < T.length))])/\Txt X v (vs .u8 T)/\Q RR'/\Own w0 w' ((gp,PR (PT 5) hs ms ts cs2 ds2 er)::(X++RR')) ss:=by
 have HZ:=h_ hz;have HC:Hid (PRz pt hs ms ts cs2 ds er):=h_ (hz.cs_ kc);have KC:=h_ kc;have OC:=h_ oc;have w1:IntKind.i64.wrap c=c:=i_6;clear hz c0 c1 kc oc;have HD:Hid (PRz pt hs ms ts cs2 ds2 er):=h_ (HC.out.ds_ kd);have KD:=h_ kd;have OD:=h_ od;clear kd od;go_enter func84,ntmps84
 go_wp2_with (first
  |(go_at_call 124;have _t:=hm;refine (CT.out _ _ hm).mono ?_;clear _t hm CT;rintro x w ⟨rfl,RR2,hQ,hm⟩)
  |(go_at_call 129;refine cB (CF.out _) hm ?_;clear hm;intro w1 hm)
  |(with_reducible first|(refine wa 76 hm BX ?_;clear hm;intro w g hm)|(refine wa 143 hm QA ?_;clear hm;intro w g9 hm))
  |(with_reducible refine gLd (t:=143) ?_;(first|(refine A8 rfl (ldp 2 hm rfl rfl rfl (LU HZ.out) HZ.out.L6 (LX HZ.out)) ?_)|(refine A8 rfl (lda 0 hm rfl rfl rfl HC.out.L6) ?_)))
  |(with_reducible refine gSt (t:=143) ?_;(first|(refine Ad rfl (Aw 0 hm rfl rfl (Ac rfl) rfl HC.out.L6 (by rw [KC.out,OY]) OC.out ?_);clear hm;intro w hm;try simp only [puts,s2,List.set] at hm)|(refine Ad rfl (Aj 3 hm rfl rfl (Ac rfl) rfl HC.out.L6 (by rw [Bg HZ.out,KC.out];decide) OC.out (Jy HZ.out KC.out) ?_);clear hm;intro w hm;try simp only [puts,s2,List.set] at hm)))
  |(go_at_call 130;have _t:=hm;refine (CE.out _).mono ?_;clear _t;rintro x w1 ⟨⟨v,rfl,hs⟩,hb⟩;obtain ⟨ad,cc,rfl⟩:=hs.shape;obtain ⟨X,hX,hm'⟩:=hm.TW hb hs;clear hm hs hb;have hm:=hm';clear hm')
  |(with_reducible refine wa 147 hm Dc ?_;clear hm;intro w g12 hm)
  |(with_reducible refine gLd (t:=147) ?_;(first|(refine A8 rfl (ldp 3 hm rfl rfl rfl (Q7 HC.out) HC.out.Ud (Qb HC.out)) ?_)|(refine A8 rfl (lda 0 hm rfl rfl rfl HD.out.Ud) ?_)))
  |(with_reducible refine gSt (t:=147) ?_;(first|(refine Ad rfl (Aw 0 hm rfl rfl (Ac rfl) rfl HD.out.Ud (by rw [KD.out,Rt]) OD.out ?_);clear hm;intro w hm;try simp only [puts,s2,List.set] at hm)|(refine Ad rfl (Aj 4 hm rfl rfl (Ac rfl) rfl HD.out.Ud (by rw [Bg HC.out,KD.out];decide) OD.out (Q8 HC.out KD.out) ?_);clear hm;intro w hm;try simp only [puts,s2,List.set] at hm)))
  |(go_at_call 85;refine cB (iE _) hm ?_;clear hm;intro w1 hm)
  |(with_reducible refine gSt (t:=134) ?_;(refine Ad rfl (Aj 4 hm rfl rfl (Ac rfl) rfl (Cm _) (by rw [Bg HD.out];decide) (Ei _) (Eh HD.out rfl) ?_);clear hm;intro w hm;try simp only [puts,s2,List.set] at hm))
  |(with_reducible refine gBu (t:=76) ?_;(refine A8 rfl (MK rfl rfl rfl) ?_))
  |(with_reducible (first|refine ws 76 0 hm ?_ (h1:=c_z (Ak _ _ _ _ _ rfl _))|refine ws 76 3 hm ?_ (h1:=c_z (Ak _ _ _ _ _ rfl _)));clear hm;intro w hm)
   )
 exact xdk
theorem XW (gp:Nat) (c sy e:Int) (c0:0<=c) (c1:c<=1) (pr:Value) (pt hs ms ts cs ds er:A_) (RR:Rws) (w0 w:World) (ss:List Sl) (hm:Own w0 w ((gp,PR pt hs ms ts cs ds er)::RR) ss) (Q:Rws->Prop) (CT:Hid (∀ W g,Own w0 W (g::(gp,PR pt hs ms ts cs ds er)::RR) ss->Calls prog 124 #[.pointer (some ⟨gp,0,none⟩),pr,.int .i64 1] W fun x w'=>(x=.returned (.tuple #[.int .u32 c,.agg (EVT 0 0 0 0 0 (.slice none 0 0) 0),.bool true]))/\∃ RR',Q RR'/\Own w0 w' (g::(gp,PR pt hs ms ts cs ds er)::RR') ss)) (cs2:A_) (CF:Hid (∀ w,Calls prog 129 #[.agg cs,.int .i64 c] w (RB w (.tuple #[.agg cs2,.int .i64 sy,.bool true])))) (hz:PRz pt hs ms ts cs ds er) (kc:cs2.size=260) (oc:∀ v ∈ cs2,v.oneCell'=true) (f:Bool) (ds2:A_) (T:I_) (hT:T.length<=1000000) (CE:Hid (∀ w,Calls prog 130 #[.agg ds,.int .i64 sy] w fun x w'=>(∃ v,x=.returned (.tuple #[.agg ds2,v,.bool f,.int .i64 e])/\IG w.heap.size w' v (vs .u8 T))/\Below w.heap.size w w')) (kd:ds2.size=260) (od:∀ v ∈ ds2,v.oneCell'=true)  (he:e ≠ 0):Calls prog 84 #[.pointer (some ⟨gp,0,none⟩),pr] w fun x w'=>(x=.returned (.tuple #[.agg (EVT 8 0 0 0 0 (.slice none 0 0) e),.bool true]))/\∃ X RR',Q RR'/\Own w0 w' ((gp,PR (PT 8) hs ms ts cs2 ds (ER e))::(X++RR')) ss:=by
 have HZ:=h_ hz;have HC:Hid (PRz pt hs ms ts cs2 ds er):=h_ (hz.cs_ kc);have KC:=h_ kc;have OC:=h_ oc;have w1:IntKind.i64.wrap c=c:=i_6;clear hz c0 c1 kc oc;have HD:Hid (PRz pt hs ms ts cs2 ds2 er):=h_ (HC.out.ds_ kd);have KD:=h_ kd;have OD:=h_ od;clear kd od;have CW:Hid (∀ {W} {g12 g9 g7 g:Nat × A_} {RR2},Own w0 W (g12::g9::g7::g::(gp,PR pt hs ms ts cs2 ds er)::RR2) ss->Calls prog 125 #[.pointer (some ⟨gp,0,none⟩),.int .i64 e] W fun x w'=>(x=.returned (.tuple #[.agg (EVT 8 0 0 0 0 (.slice none 0 0) e),.bool true]))/\Own w0 w' (g12::g9::g7::g::(gp,PR (PT 8) hs ms ts cs2 ds (ER e))::RR2) ss):=h_ fun h=>(Gf gp pt hs ms ts cs2 ds er e w0 _ _ ss (h.front 4 rfl) HC.out).mono fun x w' h=>⟨h.1,h.2.unf4⟩;have q1:(e != 0)=true:=by simpa using he
 have q2:(e == 0)=false:=by simpa using he
 clear he;go_enter func84,ntmps84
 go_wp2_with (first
  |(go_at_call 124;have _t:=hm;refine (CT.out _ _ hm).mono ?_;clear _t hm CT;rintro x w ⟨rfl,RR2,hQ,hm⟩)
  |(go_at_call 129;refine cB (CF.out _) hm ?_;clear hm;intro w1 hm)
  |(with_reducible first|(refine wa 76 hm BX ?_;clear hm;intro w g hm)|(refine wa 143 hm QA ?_;clear hm;intro w g9 hm))
  |(with_reducible refine gLd (t:=143) ?_;(first|(refine A8 rfl (ldp 2 hm rfl rfl rfl (LU HZ.out) HZ.out.L6 (LX HZ.out)) ?_)|(refine A8 rfl (lda 0 hm rfl rfl rfl HC.out.L6) ?_)))
  |(with_reducible refine gSt (t:=143) ?_;(first|(refine Ad rfl (Aw 0 hm rfl rfl (Ac rfl) rfl HC.out.L6 (by rw [KC.out,OY]) OC.out ?_);clear hm;intro w hm;try simp only [puts,s2,List.set] at hm)|(refine Ad rfl (Aj 3 hm rfl rfl (Ac rfl) rfl HC.out.L6 (by rw [Bg HZ.out,KC.out];decide) OC.out (Jy HZ.out KC.out) ?_);clear hm;intro w hm;try simp only [puts,s2,List.set] at hm)))
  |(go_at_call 130;have _t:=hm;refine (CE.out _).mono ?_;clear _t;rintro x w1 ⟨⟨v,rfl,hs⟩,hb⟩;obtain ⟨ad,cc,rfl⟩:=hs.shape;obtain ⟨X,hX,hm'⟩:=hm.TW hb hs;clear hm hs hb;have hm:=hm';clear hm')
  |(with_reducible refine wa 147 hm Dc ?_;clear hm;intro w g12 hm)
  |(with_reducible refine gLd (t:=147) ?_;((refine A8 rfl (ldp 3 hm rfl rfl rfl (Q7 HC.out) HC.out.Ud (Qb HC.out)) ?_)))
  |(with_reducible refine ws 147 0 hm ?_ (ht:=c_z HD.out.Ud) (hs:=(by with_unfolding_all rw [KD.out,Rt])) (h1:=c_z OD.out);clear hm;intro w hm)
  |(go_at_call 125;have _t:=hm;refine (CW.out hm).mono ?_;clear _t hm;rintro x w ⟨rfl,hm⟩)
  |(with_reducible (first|refine ws 76 0 hm ?_ (h1:=c_z (Ak _ _ _ _ _ rfl _))|refine ws 76 3 hm ?_ (h1:=c_z (Ak _ _ _ _ _ rfl _)));clear hm;intro w hm)
   )
 refine b_r (Af rfl rfl (hm.row 3 rfl) (Dw _ _ _ _ _ _ _)) rfl ⟨rfl,X,RR2,hQ,hm.dropRow.dropRow.dropRow.dropRow⟩
theorem kZ (b:DS) (s:Int) (w:World) (hl:b.l.length=256) (s0:¬ s=0) (s1:¬ s=1) (s2:¬ s=257) (hf:b.run=b.left):Calls prog 174 #[.agg (V b),.int .i64 s] w (JY w b [] false):=by
 have d0:(s == 0)=false:=by simpa using s0
 have d1:(s == 1)=false:=by simpa using s1
 have d2:(s == 257)=false:=by simpa using s2
 have d3:(b.run == b.left)=true:=by simpa using hf
 clear hf;go_enter func174,ntmps174;have hm:=Own.nil w
 go_wp2_with (first
 |(refine Ar hm rfl rfl rfl ?_;intro w1 g hm1;clear hm)
 |(refine AL hm1 rfl rfl Dc ?_;intro w2 g2 hm2;clear hm1)
 |(refine A8 rfl (Aa (off:=257) rfl rfl (hm2.row 1 rfl) BG (H7 hl)) ?_)
 |(refine A8 rfl (Aa (off:=256) rfl rfl (hm2.row 1 rfl) BG (H8 hl)) ?_)
 |(refine Ag rfl rfl rfl (hm2.row 1 rfl) (BJ hl) ?_)
 |(refine AY 0 hm2 rfl rfl rfl rfl rfl (BJ hl) (BR hl BF) (A35 _) ?_;intro w4 hm4;simp only [List.set] at hm4;clear hm2))
 refine b_r (Ae rfl rfl (hm4.row 0 rfl) (BJ hl)) rfl ?_;exact ⟨⟨_,rfl,.inl ⟨rfl,rfl⟩⟩,hm4.below⟩
theorem jl {b:DS} (h:0<=b.run):(b.rep.length:Int)=b.run:=by rw [DS.rep,l_r];omega
theorem step_more (b:DS) (s:Int) (w:World) (hl:b.l.length=256) (s0:¬ s=0) (s1:¬ s=1) (s2:¬ s=257) (hf:¬ b.run=b.left) (h0:0<=b.run) (h1:b.run<=65536) (h2:0<=b.left) (h3:b.left<=65536) (hs:0<=s/\s<=1000):Calls prog 174 #[.agg (V b),.int .i64 s] w (JY w ⟨Ie b.l (s - 1),b.left - (b.run+1),0,0,false⟩ (b.rep++[takeC b.l (s - 1)]) true):=by
 have d0:(s == 0)=false:=by simpa using s0
 have d1:(s == 1)=false:=by simpa using s1
 have d2:(s == 257)=false:=by simpa using s2
 have d3:(b.run == b.left)=false:=by simpa using hf
 have CR:Hid (∀ w,Calls prog 217 #[.agg (V b)] w (FI w b.rep)):=fun w=>run_any b w hl h0 h1;have CT:Hid (∀ w,Calls prog 218 #[.agg (B b.l),.int .i64 (s - 1)] w (RB w (.tuple #[.agg (B (Ie b.l (s - 1))),.int .u8 (takeC b.l (s - 1)),.bool (takeB (s - 1))]))):=fun w=>take_any b.l (s - 1) w hl;have hm1:(Ie b.l (s - 1)).length=256:=Vs _ _ hl;have hw:IntKind.i64.wrap (s - 1)=s - 1:=i_6;have hR:=jl h0;obtain ⟨i5,hE⟩:=Md;have HE:=h_ hE;clear hE hf hs;generalize b.rep=R at *;generalize Ie b.l (s - 1)=M at *;generalize takeC b.l (s - 1)=c at *;generalize takeB (s - 1)=f at *;have hlt:R.length<=65536:=by omega
 have HR:=h_ hR;have hw2:IntKind.i64.wrap (b.left - ((R.length:Int)+1))=b.left - ((R.length:Int)+1):=i_6;clear hR;go_enter func174,ntmps174;have hm:=Own.nil w
 go_wp2_with (first
 |(refine Ar hm rfl rfl rfl ?_;intro w1 g hm1';clear hm)
 |(refine AL hm1' rfl rfl Dc ?_;intro w2 g2 hm2;clear hm1')
 |(refine A8 rfl (Aa (off:=257) rfl rfl (hm2.row 1 rfl) BG (H7 hl)) ?_)
 |(refine A8 rfl (Aa (off:=256) rfl rfl (hm2.row 1 rfl) BG (H8 hl)) ?_)
 |(refine Bd rfl rfl rfl (hm2.row 1 rfl) (F6 _ hl) (Ci hl) (NG hl) ?_)
 |(go_at_call 218;have _t:=hm2;refine (CT.out _).mono ?_;rintro e w3 ⟨rfl,hb3⟩;have hm3:=hm2.call hb3;clear hm2)
 |(refine AL hm3 rfl rfl QZ ?_;intro w4 g4 hm4;clear hm3)
 |(refine AY 0 hm4 rfl rfl rfl rfl rfl (F6 _ hm1) (QI _ _ hm1 DK) (Ut _) ?_;intro w5 hm5;simp only [List.set] at hm5;clear hm4)
 |(refine Ag rfl rfl rfl (hm5.row 2 rfl) (BJ hl) ?_)
 |(go_at_call 217;have _t:=hm5;refine (CR.out _).mono ?_;rintro e w6 ⟨⟨gT,cells,rfl,hrT,hgT,htT⟩,hb6⟩;have hm6:=hm5.QW hb6 hrT hgT;clear hm5)
 |(refine QB (v:=.int .u8 c) hm6 rfl rfl HE.out rfl rfl ?_;intro w7 g7 hm7;clear hm6)
 |(refine Ux hm7 rfl rfl HE.out rfl (Ai .u8 R) (sG (hm7.row 1 rfl) htT) rfl (news:=[.int .u8 c]) rfl (fun j u hj=>by cases j with|zero=>simp at hj;subst hj;exact Iz (hm7.row 0 rfl) 0 rfl|succ j=>simp at hj) (by omega) (by omega) (by omega) ?_;intro ad8 c8 w8 hm8;clear hm7)
 |(refine Ag rfl rfl rfl (hm8.row 2 rfl) (F6 _ hm1) ?_)
 |(refine A8 rfl (Aa (off:=256) rfl rfl (hm8.row 4 rfl) BG (H8 hl)) ?_)
 |(refine A8 rfl (KW rfl rfl rfl hm1) ?_)
 |(refine AY 3 hm8 rfl rfl rfl rfl rfl (BJ (b:=⟨M,b.left - ((R.length:Int)+1),0,0,false⟩) hm1) (BR (b:=⟨M,b.left - ((R.length:Int)+1),0,0,false⟩) hm1 BF) (A35 _) ?_;intro w9 hm9;simp only [List.set] at hm9;clear hm8))
 refine b_r (Ae rfl rfl (hm9.row 3 rfl) (BJ (b:=⟨M,b.left - ((R.length:Int)+1),0,0,false⟩) hm1)) rfl ?_;rw [<- HR.out];have e:vs .u8 R++[Value.int .u8 c]=vs .u8 (R++[c]):=by simp [vs]
 have hs:=IG.Yo (hm9.get 0 rfl);rw [e] at hs;exact ⟨⟨_,rfl,hs⟩,hm9.below⟩
theorem rE (b:DS) (s:Int) (w:World) (hl:b.l.length=256) (h0:0<=b.run) (h1:b.run<=b.left) (h3:b.left<=65536) (hd0:0<=b.dig) (hd1:b.dig<=16) (hs:0<=s/\s<=257):Calls prog 174 #[.agg (V b),.int .i64 s] w (JY w (G9 b s).1 (G9 b s).2.1 (G9 b s).2.2):=by
 by_cases s0:s=0
 ·subst s0;exact A1O b w hl hd0 (by omega)
 by_cases s1:s=1
 ·subst s1;exact A1N b w hl hd0 (by omega)
 rw [G9,if_neg (fun h=>h.elim s0 s1)];by_cases s2:s=257
 ·subst s2;rw [if_pos rfl];exact rD b w hl h0 (by omega)
 rw [if_neg s2];by_cases hf:b.run=b.left
 ·rw [if_pos hf];exact kZ b s w hl s0 s1 s2 hf
 ·rw [if_neg hf];exact step_more b s w hl s0 s1 s2 hf h0 (by omega) (by omega) h3 (by omega)
def FY (b:DS) (s:Int):DS × I_ × Bool × Int :=
 if dOk b=true/\b.fin=false/\0<=s/\s<=257 then (if (G9 b s).2.2=true then ((G9 b s).1,(G9 b s).2.1,(G9 b s).1.fin,0) else (b,[],false,160)) else (b,[],false,2)
def Us (w:World) (o:DS × I_ × Bool × Int) (x:Ending) (w':World):Prop:=(∃ v,x=.returned (.tuple #[.agg (V o.1),v,.bool o.2.2.1,.int .i64 o.2.2.2])/\IG w.heap.size w' v (vs .u8 o.2.1))/\Below w.heap.size w w'
theorem TL {b:DS} (h:dOk b=true):0<=b.left/\b.left<=65536/\0<=b.run/\b.run<=b.left/\0<=b.dig/\b.dig<=16/\((dg b.run.toNat).length:Int)=b.dig:=by
 rw [dOk,b_t,b_t] at h;exact of_decide_eq_true h.2.1
theorem mZ (b:DS) (s:Int) (hl:b.l.length=256):(G9 b s).1.l.length=256:=by
 rw [G9];split
 ·exact hl
 ·split
  ·exact hl
  ·split
   ·exact hl
   ·exact Vs _ _ hl
theorem dst_v (b:DS) (s:Int) (w:World) (hl:b.l.length=256) (r:Bool) (CV:Hid (∀ w,Calls prog 173 #[.agg (V b)] w (RB w (.bool r)))) (h:r=false):Calls prog 130 #[.agg (V b),.int .i64 s] w (Us w (b,[],false,2)):=by
 subst h;go_enter func130,ntmps130;have hm:=Own.nil w
 go_wp2_with (first
 |(refine Ar hm rfl rfl rfl ?_;intro w1 g hm1;clear hm)
 |(refine AL hm1 rfl rfl Dc ?_;intro w2 g2 hm2;clear hm1)
 |(refine Ag rfl rfl rfl (hm2.row 1 rfl) (BJ hl) ?_)
 |(go_at_call 173;have _t:=hm2;refine (CV.out _).mono ?_;rintro e w3 ⟨rfl,hb3⟩;have hm3:=hm2.call hb3;clear hm2)
 |(refine Ag rfl rfl rfl (hm3.row 1 rfl) (BJ hl) ?_)
 |(refine AY 0 hm3 rfl rfl rfl rfl rfl (BJ hl) (BR hl BF) (A35 _) ?_;intro w4 hm4;simp only [List.set] at hm4;clear hm3))
 exact xf3
theorem dst_f (b:DS) (s:Int) (w:World) (hl:b.l.length=256) (r:Bool) (CV:Hid (∀ w,Calls prog 173 #[.agg (V b)] w (RB w (.bool r)))) (h:r=true) (h2:b.fin=true):Calls prog 130 #[.agg (V b),.int .i64 s] w (Us w (b,[],false,2)):=by
 subst h;exact xav
theorem dst_l (b:DS) (s:Int) (w:World) (hl:b.l.length=256) (r:Bool) (CV:Hid (∀ w,Calls prog 173 #[.agg (V b)] w (RB w (.bool r)))) (h:r=true) (h2:b.fin=false) (h3:s < 0):Calls prog 130 #[.agg (V b),.int .i64 s] w (Us w (b,[],false,2)):=by
 subst h;have q3:decide (s < 0)=true:=decide_eq_true h3;exact xav
theorem dst_h (b:DS) (s:Int) (w:World) (hl:b.l.length=256) (r:Bool) (CV:Hid (∀ w,Calls prog 173 #[.agg (V b)] w (RB w (.bool r)))) (h:r=true) (h2:b.fin=false) (h3:¬ s < 0) (h4:257 < s):Calls prog 130 #[.agg (V b),.int .i64 s] w (Us w (b,[],false,2)):=by
 subst h;have q3:decide (s < 0)=false:=decide_eq_false h3;have q4:decide (257 < s)=true:=decide_eq_true h4;exact xav
theorem Ia {P:Program} {ops:O_} {rest:Q_} {o:Oper} {a:Act} {w0 w:World} {Q:Exit->P_} {rs:Rws} {ss:List Sl} (i:Nat) (hm:Own w0 w rs ss) (hgd:Region.wanted o (yielded ops a.tmps)=true) {ty:TypeId} {x y:Operand} (ho:o.op=.store ty x y) {g:Nat} (hx:a.eval x=.pointer (some ⟨g,0,none⟩)) {vs cs:A_} (hy:a.eval y=.agg vs)
  (hi:rs[i]?=some (g,cs)) (ht:Aq P ty vs.size) (hs:vs.size=cs.size) (h1:∀ v ∈ vs,v.oneCell'=true)
  (h:Own w0 (w.setRow g vs) (rs.set i (g,vs)) ss->wpList P ops Q rest (a.put o.dst undef) (w.setRow g vs)):wpList P ops Q (o::rest) a w:=by
 have hrun:=Gn (P:=P) (off:=0) ho hx hy (hm.row i hi) ht rfl (by omega) h1;rw [GI cs vs hs] at hrun;exact FN hgd hrun (h (hm.setRow i vs hi))
theorem A0s (b:DS) (s:Int) (w:World) (hl:b.l.length=256) (CV:Hid (∀ w,Calls prog 173 #[.agg (V b)] w (RB w (.bool true)))) (h2:b.fin=false) (h3:¬ s < 0) (h4:¬ 257 < s) (o:DS) (t:I_) (ho:o.l.length=256) (CS:Hid (∀ w,Calls prog 174 #[.agg (V b),.int .i64 s] w (JY w o t false))):Calls prog 130 #[.agg (V b),.int .i64 s] w (Us w (b,[],false,160)):=by
 have q3:decide (s < 0)=false:=decide_eq_false h3;have q4:decide (257 < s)=false:=decide_eq_false h4;go_enter func130,ntmps130;have hm:=Own.nil w
 go_wp2_with (first
 |(refine Ar hm rfl rfl rfl ?_;intro w1 g hm1;clear hm)
 |(refine AL hm1 rfl rfl Dc ?_;intro w2 g2 hm2;clear hm1)
 |(refine Ag rfl rfl rfl (hm2.row 1 rfl) (BJ hl) ?_)
 |(go_at_call 173;have _t:=hm2;refine (CV.out _).mono ?_;rintro e w3 ⟨rfl,hb3⟩;have hm3:=hm2.call hb3;clear hm2)
 |(refine A8 rfl (Aa (off:=259) rfl rfl (hm3.row 1 rfl) X3 (Qm hl)) ?_)
 |(refine Ag rfl rfl rfl (hm3.row 1 rfl) (BJ hl) ?_)
 |(go_at_call 174;have _t:=hm3;refine (CS.out _).mono ?_;rintro e w4 ⟨⟨v4,rfl,hs4⟩,hb4⟩;have hm4:=hm3.call hb4;have HG:=h_ ((hm3.row 0 rfl).lt);have HS4:=h_ hs4;have HW:=h_ hm3.below.size;clear hm3 hs4)
 |(have _t:=HG;refine Ia 0 hm4 rfl rfl rfl rfl rfl (BJ ho) (BR ho BF) (A35 _) ?_;intro hm5;simp only [List.set] at hm5;have HS5:=h_ (HS4.out.setRow HG.out (V o));generalize World.setRow _ _ (V o)=w5 at hm5 HS5 ⊢;clear hm4 HS4 HG)
 |(refine Ag rfl rfl rfl (hm5.row 1 rfl) (BJ hl) ?_)
 |(refine AY 0 hm5 rfl rfl rfl rfl rfl (BJ hl) (BR hl ho) (A35 _) ?_;intro w6 hm6;simp only [List.set] at hm6;clear hm5))
 refine b_r (EJ rfl rfl (hm6.row 0 rfl) (BJ hl)) rfl ?_;exact ⟨⟨_,rfl,.inl ⟨rfl,rfl⟩⟩,hm6.below⟩
theorem wP (b:DS) (s:Int) (w:World) (hl:b.l.length=256) (CV:Hid (∀ w,Calls prog 173 #[.agg (V b)] w (RB w (.bool true)))) (h2:b.fin=false) (h3:¬ s < 0) (h4:¬ 257 < s) (o:DS) (t:I_) (ho:o.l.length=256) (CS:Hid (∀ w,Calls prog 174 #[.agg (V b),.int .i64 s] w (JY w o t true))):Calls prog 130 #[.agg (V b),.int .i64 s] w (Us w (o,t,o.fin,0)):=by
 have q3:decide (s < 0)=false:=decide_eq_false h3;have q4:decide (257 < s)=false:=decide_eq_false h4;go_enter func130,ntmps130;have hm:=Own.nil w
 go_wp2_with (first
 |(refine Ar hm rfl rfl rfl ?_;intro w1 g hm1;clear hm)
 |(refine AL hm1 rfl rfl Dc ?_;intro w2 g2 hm2;clear hm1)
 |(refine Ag rfl rfl rfl (hm2.row 1 rfl) (BJ hl) ?_)
 |(go_at_call 173;have _t:=hm2;refine (CV.out _).mono ?_;rintro e w3 ⟨rfl,hb3⟩;have hm3:=hm2.call hb3;clear hm2)
 |(refine A8 rfl (Aa (off:=259) rfl rfl (hm3.row 1 rfl) X3 (Qm hl)) ?_)
 |(refine Ag rfl rfl rfl (hm3.row 1 rfl) (BJ hl) ?_)
 |(go_at_call 174;have _t:=hm3;refine (CS.out _).mono ?_;rintro e w4 ⟨⟨v4,rfl,hs4⟩,hb4⟩;have hm4:=hm3.call hb4;have HG:=h_ ((hm3.row 0 rfl).lt);have HS4:=h_ hs4;have HW:=h_ hm3.below.size;have HGX:=h_ ((hm3.row 0 rfl).lt);clear hm3 hs4)
 |(have _t:=HG;refine Ia 0 hm4 rfl rfl rfl rfl rfl (BJ ho) (BR ho BF) (A35 _) ?_;intro hm5;simp only [List.set] at hm5;have HS5:=h_ (HS4.out.setRow HG.out (V o));generalize World.setRow _ _ (V o)=w5 at hm5 HS5 ⊢;clear hm4 HS4 HG)
 |(refine Ag rfl rfl rfl (hm5.row 0 rfl) (BJ ho) ?_)
 |(refine A8 rfl (Aa (off:=259) rfl rfl (hm5.row 0 rfl) X3 (Qm ho)) ?_)
 |(refine Ia 0 hm5 rfl rfl rfl rfl rfl (BJ ho) (BR ho ho) (A35 _) ?_;intro hm6;simp only [List.set] at hm6;have HS6:=h_ (HS5.out.setRow HGX.out (V o));generalize World.setRow _ _ (V o)=w6 at hm6 HS6 ⊢;clear hm5 HS5))
 refine b_r (EJ rfl rfl (hm6.row 0 rfl) (BJ ho)) rfl ?_;exact ⟨⟨_,rfl,HS6.out.mono HW.out⟩,hm6.below⟩
theorem VJ (b:DS) (s:Int) (w:World) (hl:b.l.length=256) (hb:Bytes b.l):Calls prog 130 #[.agg (V b),.int .i64 s] w (Us w (FY b s)):=by
 have RV:=fun w=>eH b w hl hb;rw [FY];cases hv:dOk b with
|false =>
  rw [if_neg (fun h=>by cases h.1)];exact dst_v b s w hl _ (h_ (fun w=>RV w)) hv
|true =>
  have CV:Hid (∀ w,Calls prog 173 #[.agg (V b)] w (RB w (.bool true))):=h_ (fun w=>by have h:=RV w;rwa [hv] at h);cases hf:b.fin with
 |true =>
   rw [if_neg (fun h=>by cases h.2.1)];exact dst_f b s w hl _ CV rfl hf
 |false =>
   by_cases h3:s < 0
   ·rw [if_neg (by omega)];exact dst_l b s w hl _ CV rfl hf h3
   by_cases h4:257 < s
   ·rw [if_neg (by omega)];exact dst_h b s w hl _ CV rfl hf h3 h4
   rw [if_pos ⟨rfl,rfl,by omega,by omega⟩];obtain ⟨a1,a2,a3,a4,a5,a6,_⟩:=TL hv;have CS:∀ w,Calls prog 174 #[.agg (V b),.int .i64 s] w (JY w (G9 b s).1 (G9 b s).2.1 (G9 b s).2.2):=fun w=>rE b s w hl a3 a4 a2 a5 a6 (by omega);have hlo:=mZ b s hl;cases hk:(G9 b s).2.2 with
  |true =>
    rw [if_pos rfl];exact wP b s w hl CV hf h3 h4 _ _ hlo (h_ (fun w=>by have h:=CS w;rwa [hk] at h))
  |false =>
    rw [if_neg (by decide)];exact A0s b s w hl CV hf h3 h4 _ _ hlo (h_ (fun w=>by have h:=CS w;rwa [hk] at h))
theorem Oi {most:Int} (h1:¬ most < 1) (h2:¬ 65536 < most):dNew most=⟨new,most,0,0,false⟩:=by rw [dNew,if_pos (by omega)]
def PR0:A_:=PR (PT 1) (HS 0 0 0 0) (MS 0 0 0 0 0 0 0) (TS Hf 0 0 0 0) (CS Hf 0 0) (V DS0) (ER 0)
theorem UO {o:Oper} {a:Act} {w:World} {x:Operand} (ho:o.op=.build 149 #[(0,x)]) (hx:a.eval x=.agg (PT 1)):(execOp a.eval o).run prog w=.ok (.value (.agg PR0)) w :=
 Dq ho (by simp only [l_y,List.map_cons,List.map_nil,hx];kernel_rfl)
theorem pnew (w0 w:World) (rs:Rws) (ss:List Sl) (hm:Own w0 w rs ss):Calls prog 35 #[] w fun x w'=>∃ gp,x=.returned (.pointer (some ⟨gp,0,none⟩))/\Own w0 w' ((gp,PR0)::rs) ss:=by
 go_enter func35,ntmps35
 go_wp2_with (first
 |(go_at_call 77;refine cB (iG _) hm ?_;clear hm;intro w1 hm)
 |(with_reducible refine gBu (t:=149) ?_;(refine A8 rfl (UO rfl rfl) ?_))
 |(with_reducible refine wb hm ?_;clear hm;intro w g hm))
 go_ret;exact ⟨_,rfl,hm⟩
theorem PR0_z:PRz (PT 1) (HS 0 0 0 0) (MS 0 0 0 0 0 0 0) (TS Hf 0 0 0 0) (CS Hf 0 0) (V DS0) (ER 0):=⟨rfl,rfl,rfl,Dy Az,CU Az,FT BF,rfl⟩
end Go.Proofs.YtkpbhdhkdonghaaGreat
