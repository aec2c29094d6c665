/-
  Part 14 of the proof.
-/
import Derived.Test.YtkpbhdhkdonghaaGreatA11
import Derived.Test.YtkpbhdhkdonghaaGreatA13
set_option linter.all false
set_option maxHeartbeats 2000000
set_option maxRecDepth 100000
namespace Go.Proofs.YtkpbhdhkdonghaaGreat
open Go Tryz Go.RowKit
theorem Y8 {P:Program} (w:World) (d:Nat) (t:TypeId) {ps rs:Array TypeId} {b:Bool} {f:Fn} {x y:A_} (h:P.underlying t=some (.func ps rs b)):(Op.equalIn (d+1) t (.func f x y) .nilFunc).run P w=.ok false w:=by
 simp [Op.equalIn,r_u h]
theorem BH {w:World} {o:Oper} {a:Act} {x y:Operand} {t':TypeId} (ho:o.op=.binOp .eql 211 x y t') {f:Fn} {p q:A_} (hx:a.eval x=.func f p q) (hy:a.eval y=.nilFunc):(execOp a.eval o).run prog w=.ok (.value (.bool false)) w:=by
 have h:(Op.equal 211 (.func f p q) .nilFunc).run prog w=.ok false w:=Y8 w 9999 211 underlying211;exact xhb
theorem zL (n:Int) (n0:1<=n) (n1:n<=65536)  (w:World):Calls prog 101 #[.int .i64 n,.agg (MS 0 0 0 0 0 0 0),.int .u8 0] w (RB w (.tuple #[.agg (MS 5 0 0 0 0 0 0),.bool false,.int .i64 0])):=by
 have CV:Hid (∀ w,Calls prog 142 #[.int .i64 n,.agg (MS 0 0 0 0 0 0 0)] w (RB w (.bool true))):=h_ fun w=>Sr n n0 n1 w;have CM:Hid (∀ w,Calls prog 138 #[.int .i64 n,.agg (MS 0 0 0 0 0 0 0),.int .u8 0] w (RB w (.tuple #[.agg (MS 5 0 0 0 0 0 0),.bool true]))):=h_ fun w=>A2f n w;exact xfn
theorem zK (n:Int) (n0:1<=n) (n1:n<=65536)  (w:World):Calls prog 101 #[.int .i64 n,.agg (MS 0 0 0 0 0 0 0),.int .u8 1] w (RB w (.tuple #[.agg (MS 1 0 0 0 0 0 0),.bool false,.int .i64 0])):=by
 have CV:Hid (∀ w,Calls prog 142 #[.int .i64 n,.agg (MS 0 0 0 0 0 0 0)] w (RB w (.bool true))):=h_ fun w=>Sr n n0 n1 w;have CM:Hid (∀ w,Calls prog 138 #[.int .i64 n,.agg (MS 0 0 0 0 0 0 0),.int .u8 1] w (RB w (.tuple #[.agg (MS 1 0 0 0 0 0 0),.bool true]))):=h_ fun w=>A2e n w;exact xfn
theorem zJ (n:Int) (n0:1<=n) (n1:n<=65536) (c:Int) (hc:1 < c) (w:World):Calls prog 101 #[.int .i64 n,.agg (MS 0 0 0 0 0 0 0),.int .u8 c] w (RB w (.tuple #[.agg (MS 0 0 0 0 0 0 0),.bool false,.int .i64 242])):=by
 have CV:Hid (∀ w,Calls prog 142 #[.int .i64 n,.agg (MS 0 0 0 0 0 0 0)] w (RB w (.bool true))):=h_ fun w=>Sr n n0 n1 w;have CM:Hid (∀ w,Calls prog 138 #[.int .i64 n,.agg (MS 0 0 0 0 0 0 0),.int .u8 c] w (RB w (.tuple #[.agg (MS 1 0 0 0 0 0 0),.bool false]))):=h_ fun w=>A2d n c hc w;go_enter func101,ntmps101;have hm:=Own.nil w
 go_wp2_with (first
  |(with_reducible refine gMm ?_;(refine Ad rfl (BD hm rfl ?_);clear hm;intro w r hm hd))
  |(with_reducible refine gIn ?_;(refine Ad rfl (Bj hm hd rfl (Ac rfl) BP E5 underlying210 kd3 (EY (by decide)) (BA rfl) (EU rfl) ?_);clear hm;intro w hm))
  |(with_reducible refine gBo (t:=211) ?_;(refine A8 rfl (BH rfl (Ac rfl) BP) ?_))
  |(with_reducible refine gLk ?_;(refine A8 rfl (Ez (v:=.func (.func 138) #[] #[]) 0 hm rfl (Ac rfl) (Ac rfl) rfl underlying210 kd3 (EY (by decide)) (BA rfl) (Bh rfl rfl).1 (Bh rfl rfl).2) ?_))
  |(go_at_call 142;refine cB (CV.out _) hm ?_;clear hm;intro w1 hm)
  |(go_at_call 138;refine cB (CM.out _) hm ?_;clear hm;intro w1 hm)
  |(with_reducible refine wl 3 1 hm ?_)
  |(with_reducible (first|refine wla 88 0 hm ?_|refine wla 88 1 hm ?_))
  |(with_reducible (first|refine ws 88 0 hm ?_|refine wu 88 1 hm ?_);clear hm;intro w hm)
  |(with_reducible first|(refine wa 88 hm H9 ?_;clear hm;intro w g hm)|(refine wb hm ?_;clear hm;intro w g hm)))
 (refine b_r (Ae rfl rfl (hm.row 0 rfl) (ag rfl)) rfl ?_)
 exact xg6
theorem zI (n:Int) (n0:1<=n) (n1:n<=65536) (m p:Int) (m0:1<=m) (m1:m<=n) (p0:1<=p) (p1:p<=m) (s k c:Int) (k0:0<=k) (k1:k<=3) (s0:0<=s) (s1:s < 2 ^ (8 * k).toNat) (s2:s < 16777216) (c0:0<=c) (c1:c<=255) (hk:k < 3) (w:World):Calls prog 101 #[.int .i64 n,.agg (MS 3 0 0 m p s k),.int .u8 c] w (RB w (.tuple #[.agg (MS 3 0 0 m p (s * 256+c) (k+1)),.bool false,.int .i64 0])):=by
 have CV:Hid (∀ w,Calls prog 142 #[.int .i64 n,.agg (MS 3 0 0 m p s k)] w (RB w (.bool true))):=h_ fun w=>Yt n n0 n1 m p m0 m1 p0 p1 s k k0 k1 s0 s1 w;have CM:Hid (∀ w,Calls prog 141 #[.int .i64 n,.agg (MS 3 0 0 m p s k),.int .u8 c] w (RB w (.tuple #[.agg (MS 3 0 0 m p (s * 256+c) (k+1)),.bool true]))):=h_ fun w=>qW n 3 m p s k c (by omega) (by omega) k0 hk s0 s2 c0 c1 w;exact xfk
theorem rF (n:Int) (n0:1<=n) (n1:n<=65536) (m p:Int) (m0:1<=m) (m1:m<=n) (p0:1<=p) (p1:p<=m) (s c:Int) (s0:0<=s) (s1:s < 2 ^ (8 * (3:Int)).toNat) (s2:s < 16777216) (c0:0<=c) (c1:c<=255) (w:World):Calls prog 101 #[.int .i64 n,.agg (MS 3 0 0 m p s (3:Int)),.int .u8 c] w (RB w (.tuple #[.agg (MS 4 0 0 m p (s * 256+c) ((3:Int)+1)),.bool true,.int .i64 0])):=by
 have CV:Hid (∀ w,Calls prog 142 #[.int .i64 n,.agg (MS 3 0 0 m p s (3:Int))] w (RB w (.bool true))):=h_ fun w=>Yt n n0 n1 m p m0 m1 p0 p1 s (3:Int) (by decide) (by decide) s0 s1 w;have CM:Hid (∀ w,Calls prog 141 #[.int .i64 n,.agg (MS 3 0 0 m p s (3:Int)),.int .u8 c] w (RB w (.tuple #[.agg (MS 4 0 0 m p (s * 256+c) ((3:Int)+1)),.bool true]))):=h_ fun w=>iq n 3 m p s (3:Int) c (by omega) (by omega) (by decide) rfl s0 s2 c0 c1 w;clear s1;go_enter func101,ntmps101;have hm:=Own.nil w
 go_upto_region 8 with (first
  |(with_reducible refine gMm ?_;(refine Ad rfl (BD hm rfl ?_);clear hm;intro w r hm hd))
  |(with_reducible refine gIn ?_;(refine Ad rfl (Bj hm hd rfl (Ac rfl) BP E5 underlying210 kd3 (EY (by decide)) (BA rfl) (EU rfl) ?_);clear hm;intro w hm))
  |(with_reducible refine gBo (t:=211) ?_;(refine A8 rfl (BH rfl (Ac rfl) BP) ?_))
  |(with_reducible refine gLk ?_;(refine A8 rfl (Ez (v:=.func (.func 141) #[] #[]) 0 hm rfl (Ac rfl) (Ac rfl) rfl underlying210 kd3 (EY (by decide)) (BA rfl) (Bh rfl rfl).1 (Bh rfl rfl).2) ?_))
  |(go_at_call 142;refine cB (CV.out _) hm ?_;clear hm;intro w1 hm)
  |(go_at_call 141;refine cB (CM.out _) hm ?_;clear hm;intro w1 hm)
  |(with_reducible first|(refine wl 3 1 hm ?_)|(refine wla 88 1 hm ?_)|(refine wu 88 1 hm ?_;clear hm;intro w hm)|(refine wa 88 hm H9 ?_;clear hm;intro w g hm)|(refine wb hm ?_;clear hm;intro w g hm)))
 refine BQ hm 12 (.rds [(0,true),(1,false),(2,true),(3,false),(4,false),(5,false),(6,true),(7,false),(8,false)] (.one 9 (.rds [(10,false),(11,false)] .done))) rfl (by kernel_rfl) rfl (by kernel_rfl) (fun _ _ d _ _ h=>by cases d<;>exact h) ?_;clear hm;intro w hm;simp only [KT.rds];refine km (fun W hb=>have hm:=hb.own;lda 0 hm rfl rfl rfl (ag rfl)) ?_;refine kq ?_;refine km (fun W hb=>have hm:=hb.own;ld 0 hm rfl rfl rfl (ot rfl) rfl) ?_
 iterate 2 refine kq ?_
 ((refine Bz rfl rfl ?_))
 try simp only [Act.put,s3]
 ((refine D6 rfl rfl ?_))
 try simp only [Act.put,s3]
 ((refine Bz rfl rfl ?_))
 try simp only [Act.put,s3]
 refine kq ?_
 ((refine Bo rfl rfl (Aw 0 hm rfl rfl (Ac rfl) rfl (ag rfl) rfl (Dp rfl) ?_)))
 exact xh2
theorem rH (n:Int) (n0:1<=n) (n1:n<=65536) (s k c:Int) (k0:0<=k) (k1:k<=3) (s0:0<=s) (s1:s < 2 ^ (8 * k).toNat) (s2:s < 16777216) (c0:0<=c) (c1:c<=255) (hk:k < 3) (w:World):Calls prog 101 #[.int .i64 n,.agg (MS 5 0 0 0 0 s k),.int .u8 c] w (RB w (.tuple #[.agg (MS 5 0 0 0 0 (s * 256+c) (k+1)),.bool false,.int .i64 0])):=by
 have CV:Hid (∀ w,Calls prog 142 #[.int .i64 n,.agg (MS 5 0 0 0 0 s k)] w (RB w (.bool true))):=h_ fun w=>Yr n n0 n1 s k k0 k1 s0 s1 w;have CM:Hid (∀ w,Calls prog 141 #[.int .i64 n,.agg (MS 5 0 0 0 0 s k),.int .u8 c] w (RB w (.tuple #[.agg (MS 5 0 0 0 0 (s * 256+c) (k+1)),.bool true]))):=h_ fun w=>qW n 5 0 0 s k c (by omega) (by omega) k0 hk s0 s2 c0 c1 w;exact xfk
theorem lg (n:Int) (n0:1<=n) (n1:n<=65536) (s c:Int) (s0:0<=s) (s1:s < 2 ^ (8 * (3:Int)).toNat) (s2:s < 16777216) (c0:0<=c) (c1:c<=255) (w:World):Calls prog 101 #[.int .i64 n,.agg (MS 5 0 0 0 0 s (3:Int)),.int .u8 c] w (RB w (.tuple #[.agg (MS 6 0 0 0 0 (s * 256+c) ((3:Int)+1)),.bool true,.int .i64 0])):=by
 have CV:Hid (∀ w,Calls prog 142 #[.int .i64 n,.agg (MS 5 0 0 0 0 s (3:Int))] w (RB w (.bool true))):=h_ fun w=>Yr n n0 n1 s (3:Int) (by decide) (by decide) s0 s1 w;have CM:Hid (∀ w,Calls prog 141 #[.int .i64 n,.agg (MS 5 0 0 0 0 s (3:Int)),.int .u8 c] w (RB w (.tuple #[.agg (MS 6 0 0 0 0 (s * 256+c) ((3:Int)+1)),.bool true]))):=h_ fun w=>iq n 5 0 0 s (3:Int) c (by omega) (by omega) (by decide) rfl s0 s2 c0 c1 w;exact xfk
theorem WA (n:Int) (n0:1<=n) (n1:n<=65536) (V M c:Int) (hv:DX V M=true) (hM0:0<=M) (hM:M<=4) (c0:0<=c) (c1:c<=255) (hV:V<=n) (hd:EZ M c=true) (ho:EL V M c n=true) (w:World):Calls prog 101 #[.int .i64 n,.agg (MS 1 V M 0 0 0 0),.int .u8 c] w (RB w (.tuple #[.agg (MS 2 0 0 (D5 V M c) 0 0 0),.bool false,.int .i64 0])):=by
 have CV:Hid (∀ w,Calls prog 142 #[.int .i64 n,.agg (MS 1 V M 0 0 0 0)] w (RB w (.bool true))):=h_ fun w=>O6 n n0 n1 V M hv hM0 hM hV w;have CM:Hid (∀ w,Calls prog 139 #[.int .i64 n,.agg (MS 1 V M 0 0 0 0),.int .u8 c] w (RB w (.tuple #[.agg (MS 2 0 0 (D5 V M c) 0 0 0),.bool true]))):=h_ fun w=>by have:=YN n n V M c hv hM0 hM c0 c1 hV (by omega) hd w;rwa [ho] at this
 exact xfl
theorem WB (n:Int) (n0:1<=n) (n1:n<=65536) (V M c:Int) (hv:DX V M=true) (hM0:0<=M) (hM:M<=4) (c0:0<=c) (c1:c<=255) (hV:V<=n) (hd:EZ M c=true) (ho:EL V M c n=false) (w:World):Calls prog 101 #[.int .i64 n,.agg (MS 1 V M 0 0 0 0),.int .u8 c] w (RB w (.tuple #[.agg (MS 0 0 0 0 0 0 0),.bool false,.int .i64 242])):=by
 have CV:Hid (∀ w,Calls prog 142 #[.int .i64 n,.agg (MS 1 V M 0 0 0 0)] w (RB w (.bool true))):=h_ fun w=>O6 n n0 n1 V M hv hM0 hM hV w;have CM:Hid (∀ w,Calls prog 139 #[.int .i64 n,.agg (MS 1 V M 0 0 0 0),.int .u8 c] w (RB w (.tuple #[.agg (MS 2 0 0 (D5 V M c) 0 0 0),.bool false]))):=h_ fun w=>by have:=YN n n V M c hv hM0 hM c0 c1 hV (by omega) hd w;rwa [ho] at this
 exact xax
theorem XY (n:Int) (n0:1<=n) (n1:n<=65536) (V M c:Int) (hv:DX V M=true) (hM0:0<=M) (hM:M<=4) (c0:0<=c) (c1:c<=255) (hV:V<=n) (hd:EZ M c=false) (ho:EL V M c n=true) (w:World):Calls prog 101 #[.int .i64 n,.agg (MS 1 V M 0 0 0 0),.int .u8 c] w (RB w (.tuple #[.agg (MS 1 (D5 V M c) (EM M c) 0 0 0 0),.bool false,.int .i64 0])):=by
 have CV:Hid (∀ w,Calls prog 142 #[.int .i64 n,.agg (MS 1 V M 0 0 0 0)] w (RB w (.bool true))):=h_ fun w=>O6 n n0 n1 V M hv hM0 hM hV w;have CM:Hid (∀ w,Calls prog 139 #[.int .i64 n,.agg (MS 1 V M 0 0 0 0),.int .u8 c] w (RB w (.tuple #[.agg (MS 1 (D5 V M c) (EM M c) 0 0 0 0),.bool true]))):=h_ fun w=>by have:=je n n V M c hv hM0 hM c0 c1 hV (by omega) hd w;rwa [ho] at this
 exact xfl
theorem XZ (n:Int) (n0:1<=n) (n1:n<=65536) (V M c:Int) (hv:DX V M=true) (hM0:0<=M) (hM:M<=4) (c0:0<=c) (c1:c<=255) (hV:V<=n) (hd:EZ M c=false) (ho:EL V M c n=false) (w:World):Calls prog 101 #[.int .i64 n,.agg (MS 1 V M 0 0 0 0),.int .u8 c] w (RB w (.tuple #[.agg (MS 0 0 0 0 0 0 0),.bool false,.int .i64 242])):=by
 have CV:Hid (∀ w,Calls prog 142 #[.int .i64 n,.agg (MS 1 V M 0 0 0 0)] w (RB w (.bool true))):=h_ fun w=>O6 n n0 n1 V M hv hM0 hM hV w;have CM:Hid (∀ w,Calls prog 139 #[.int .i64 n,.agg (MS 1 V M 0 0 0 0),.int .u8 c] w (RB w (.tuple #[.agg (MS 1 (D5 V M c) (EM M c) 0 0 0 0),.bool false]))):=h_ fun w=>by have:=je n n V M c hv hM0 hM c0 c1 hV (by omega) hd w;rwa [ho] at this
 exact xax
theorem UA (n:Int) (n0:1<=n) (n1:n<=65536) (m:Int) (m0:1<=m) (m1:m<=n) (V M c:Int) (hv:DX V M=true) (hM0:0<=M) (hM:M<=4) (c0:0<=c) (c1:c<=255) (hV:V<=m) (hd:EZ M c=true) (ho:EL V M c m=true) (w:World):Calls prog 101 #[.int .i64 n,.agg (MS 2 V M m 0 0 0),.int .u8 c] w (RB w (.tuple #[.agg (MS 3 0 0 m (D5 V M c) 0 0),.bool false,.int .i64 0])):=by
 have CV:Hid (∀ w,Calls prog 142 #[.int .i64 n,.agg (MS 2 V M m 0 0 0)] w (RB w (.bool true))):=h_ fun w=>O5 n n0 n1 V M m m0 m1 hv hM0 hM hV w;have CM:Hid (∀ w,Calls prog 140 #[.int .i64 n,.agg (MS 2 V M m 0 0 0),.int .u8 c] w (RB w (.tuple #[.agg (MS 3 0 0 m (D5 V M c) 0 0),.bool true]))):=h_ fun w=>by have:=Vz n m V M c hv hM0 hM c0 c1 hV (by omega) hd w;rwa [ho] at this
 exact xfm
theorem UC (n:Int) (n0:1<=n) (n1:n<=65536) (m:Int) (m0:1<=m) (m1:m<=n) (V M c:Int) (hv:DX V M=true) (hM0:0<=M) (hM:M<=4) (c0:0<=c) (c1:c<=255) (hV:V<=m) (hd:EZ M c=true) (ho:EL V M c m=false) (w:World):Calls prog 101 #[.int .i64 n,.agg (MS 2 V M m 0 0 0),.int .u8 c] w (RB w (.tuple #[.agg (MS 0 0 0 0 0 0 0),.bool false,.int .i64 242])):=by
 have CV:Hid (∀ w,Calls prog 142 #[.int .i64 n,.agg (MS 2 V M m 0 0 0)] w (RB w (.bool true))):=h_ fun w=>O5 n n0 n1 V M m m0 m1 hv hM0 hM hV w;have CM:Hid (∀ w,Calls prog 140 #[.int .i64 n,.agg (MS 2 V M m 0 0 0),.int .u8 c] w (RB w (.tuple #[.agg (MS 3 0 0 m (D5 V M c) 0 0),.bool false]))):=h_ fun w=>by have:=Vz n m V M c hv hM0 hM c0 c1 hV (by omega) hd w;rwa [ho] at this
 exact xay
theorem WG (n:Int) (n0:1<=n) (n1:n<=65536) (m:Int) (m0:1<=m) (m1:m<=n) (V M c:Int) (hv:DX V M=true) (hM0:0<=M) (hM:M<=4) (c0:0<=c) (c1:c<=255) (hV:V<=m) (hd:EZ M c=false) (ho:EL V M c m=true) (w:World):Calls prog 101 #[.int .i64 n,.agg (MS 2 V M m 0 0 0),.int .u8 c] w (RB w (.tuple #[.agg (MS 2 (D5 V M c) (EM M c) m 0 0 0),.bool false,.int .i64 0])):=by
 have CV:Hid (∀ w,Calls prog 142 #[.int .i64 n,.agg (MS 2 V M m 0 0 0)] w (RB w (.bool true))):=h_ fun w=>O5 n n0 n1 V M m m0 m1 hv hM0 hM hV w;have CM:Hid (∀ w,Calls prog 140 #[.int .i64 n,.agg (MS 2 V M m 0 0 0),.int .u8 c] w (RB w (.tuple #[.agg (MS 2 (D5 V M c) (EM M c) m 0 0 0),.bool true]))):=h_ fun w=>by have:=Z9 n m V M c hv hM0 hM c0 c1 hV (by omega) hd w;rwa [ho] at this
 exact xfm
theorem WH (n:Int) (n0:1<=n) (n1:n<=65536) (m:Int) (m0:1<=m) (m1:m<=n) (V M c:Int) (hv:DX V M=true) (hM0:0<=M) (hM:M<=4) (c0:0<=c) (c1:c<=255) (hV:V<=m) (hd:EZ M c=false) (ho:EL V M c m=false) (w:World):Calls prog 101 #[.int .i64 n,.agg (MS 2 V M m 0 0 0),.int .u8 c] w (RB w (.tuple #[.agg (MS 0 0 0 0 0 0 0),.bool false,.int .i64 242])):=by
 have CV:Hid (∀ w,Calls prog 142 #[.int .i64 n,.agg (MS 2 V M m 0 0 0)] w (RB w (.bool true))):=h_ fun w=>O5 n n0 n1 V M m m0 m1 hv hM0 hM hV w;have CM:Hid (∀ w,Calls prog 140 #[.int .i64 n,.agg (MS 2 V M m 0 0 0),.int .u8 c] w (RB w (.tuple #[.agg (MS 2 (D5 V M c) (EM M c) m 0 0 0),.bool false]))):=h_ fun w=>by have:=Z9 n m V M c hv hM0 hM c0 c1 hV (by omega) hd w;rwa [ho] at this
 exact xay
variable {M c most n s:Int} {k:Nat}
structure VM (V M most:Int):Prop where
 val:DX V M=true
 m0:0<=M
 m4:M<=4
 le:V<=most
theorem VM.zero (h:0<=most):VM 0 0 most:=⟨by decide,by decide,by decide,h⟩
theorem VM.next {V:Int} (h:VM V M most) (hm:most<=65536) (c0:0<=c) (c1:c<=255) (ho:EL V M c most=true) (hd:EZ M c=false):VM (D5 V M c) (EM M c) most:=by
 obtain ⟨hv,h0,h4,hl⟩:=h;have hle:=gW hv (by omega) h0 h4;simp only [EL,decide_eq_true_eq] at ho;simp only [EZ,decide_eq_false_iff_not] at hd
 have hc:128<=c:=by
  by_cases h:c < 128
  ·exact (hd ⟨ho.1,h⟩).elim
  ·omega
 rw [D5,EM,if_neg ho.1,if_neg ho.1];refine ⟨?_,by omega,by omega,ho.2.1⟩;have e:M=0\/M=1\/M=2\/M=3:=by omega
 have hx:0<=c % 128/\c % 128 < 128:=by omega
 have hy:c - 128=c % 128:=by omega
 rcases e with rfl|rfl|rfl|rfl
 ·have hV:V=0:=by simpa [DX] using hv
  have hne:c ≠ 128:=fun h=>ho.1 ⟨h,rfl⟩;simp [DX,vnx,hV];omega
 ·have hv:(1:Int)<=V/\V < 128:=of_decide_eq_true hv;exact decide_eq_true (show (128:Int)<=vnx V c/\vnx V c < 16384 by rw [vnx];omega)
 ·have hv:(128:Int)<=V/\V < 16384:=of_decide_eq_true hv;exact decide_eq_true (show (16384:Int)<=vnx V c/\vnx V c < 2097152 by rw [vnx];omega)
 ·have hv:(16384:Int)<=V/\V < 2097152:=of_decide_eq_true hv;exact decide_eq_true (show (2097152:Int)<=vnx V c/\vnx V c < 268435456 by rw [vnx];omega)
theorem VM.done {V:Int} (h:VM V M most) (ho:EL V M c most=true) (hd:EZ M c=true):1<=D5 V M c/\D5 V M c<=most:=by
 simp only [EL,decide_eq_true_eq] at ho;simp only [EZ,decide_eq_true_eq] at hd;rw [D5,if_neg ho.1];have:=hd.2;omega
structure HT where
 a:Int
 V:Int
 M:Int
def HT.v (t:HT):A_:=HS t.a t.V t.M 0
def HT.ok (t:HT):Prop:=(0<=t.a/\t.a<=2/\t.V=0/\t.M=0)\/t.a=3/\VM t.V t.M 65536
inductive HR where
|go (t:HT)
|done (n:Int)
|bad (e:Int)
def HT.step (t:HT) (c:Int):HR :=
 if t.a=0 then (if c=87 then .go ⟨1,0,0⟩ else .bad 240)
 else if t.a=1 then (if c=80 then .go ⟨2,0,0⟩ else .bad 240)
 else if t.a=2 then (if c=1 then .go ⟨3,0,0⟩ else .bad 241)
 else if EL t.V t.M c 65536 then (if EZ t.M c then .done (D5 t.V t.M c) else .go ⟨3,D5 t.V t.M c,EM t.M c⟩) else .bad 242
def HR.val:HR->Value
|.go t=>.tuple #[.agg t.v,.bool false,.int .i64 0]
|.done n=>.tuple #[.agg (HS 4 0 0 n),.bool true,.int .i64 0]
|.bad e=>.tuple #[.agg (HS 0 0 0 0),.bool false,.int .i64 e]
def HR.ok:HR->Prop
|.go t=>t.ok
|.done n=>1<=n/\n<=65536
|.bad e=>e=240\/e=241\/e=242
theorem HT.step_ok {t:HT} (h:t.ok) (c0:0<=c) (c1:c<=255):(t.step c).ok:=by
 obtain ⟨a,V,M⟩:=t;simp only [HT.ok] at h;simp only [HT.step];by_cases h0:a=0
 ·rw [if_pos h0];exact xg5
 rw [if_neg h0];by_cases h1:a=1
 ·rw [if_pos h1];exact xg5
 rw [if_neg h1];by_cases h2:a=2
 ·rw [if_pos h2];split
  ·exact .inr ⟨rfl,VM.zero (by decide)⟩
  ·exact .inr (.inl rfl)
 rw [if_neg h2];rcases h with h|⟨_,hv⟩
 ·omega
 split
 ·rename_i ho;split
  ·rename_i hd;exact hv.done ho hd
  ·rename_i hd;exact .inr ⟨rfl,hv.next (by decide) c0 c1 ho (by simpa using hd)⟩
 ·exact .inr (.inr rfl)
theorem VA (t:HT) (h:t.ok) (c:Int) (c0:0<=c) (c1:c<=255) (w:World):Calls prog 98 #[.agg t.v,.int .u8 c] w fun x w'=>(x=.returned (t.step c).val)/\Below w.heap.size w w':=by
 obtain ⟨a,V,M⟩:=t;simp only [HT.ok] at h;simp only [HT.v,HT.step];rcases h with ⟨a0,a2,rfl,rfl⟩|⟨rfl,hv⟩
 ·have e:a=0\/a=1\/a=2:=by omega
  rcases e with rfl|rfl|rfl
  ·rw [if_pos rfl];by_cases hc:c=87
   ·rw [if_pos hc,hc];exact vU w
   ·rw [if_neg hc];exact vN c hc w
  ·rw [if_neg (by decide),if_pos rfl];by_cases hc:c=80
   ·rw [if_pos hc,hc];exact vS w
   ·rw [if_neg hc];exact vM c hc w
  ·rw [if_neg (by decide),if_neg (by decide),if_pos rfl];by_cases hc:c=1
   ·rw [if_pos hc,hc];exact vP w
   ·rw [if_neg hc];exact vK c hc w
 ·rw [if_neg (by decide),if_neg (by decide),if_neg (by decide)];cases ho:EL V M c 65536 with
 |false=>rw [if_neg (by decide)];exact vO V M c hv.val hv.m0 hv.m4 hv.le c0 c1 ho w
 |true =>
   rw [if_pos rfl];cases hd:EZ M c with
  |true=>rw [if_pos rfl];exact nD V M c hv.val hv.m0 hv.m4 hv.le c0 c1 ho hd w
  |false=>rw [if_neg (by decide)];exact vW V M c hv.val hv.m0 hv.m4 hv.le c0 c1 ho hd w
inductive MT where
|mark
|mm (V M:Int)
|pp (m V M:Int)
|sum (m p s:Int) (k:Nat)
|last (s:Int) (k:Nat)
def MT.v:MT->A_
|.mark=>MS 0 0 0 0 0 0 0
|.mm V M=>MS 1 V M 0 0 0 0
|.pp m V M=>MS 2 V M m 0 0 0
|.sum m p s k=>MS 3 0 0 m p s k
|.last s k=>MS 5 0 0 0 0 s k
def MT.ok (n:Int):MT->Prop
|.mark=>True
|.mm V M=>VM V M n
|.pp m V M=>1<=m/\m<=n/\VM V M m
|.sum m p s k=>1<=m/\m<=n/\1<=p/\p<=m/\k<=3/\0<=s/\s < 2 ^ (8 * k)
|.last s k=>k<=3/\0<=s/\s < 2 ^ (8 * k)
inductive MR where
|go (t:MT)
|block (m p s:Int)
|tail (s:Int)
|bad
def MT.step (n:Int) (c:Int):MT->MR
|.mark=>if c=0 then .go (.last 0 0) else if c=1 then .go (.mm 0 0) else .bad
|.mm V M=>if EL V M c n then (if EZ M c then .go (.pp (D5 V M c) 0 0) else .go (.mm (D5 V M c) (EM M c))) else .bad
|.pp m V M=>if EL V M c m then (if EZ M c then .go (.sum m (D5 V M c) 0 0) else .go (.pp m (D5 V M c) (EM M c))) else .bad
|.sum m p s k=>if k=3 then .block m p (s * 256+c) else .go (.sum m p (s * 256+c) (k+1))
|.last s k=>if k=3 then .tail (s * 256+c) else .go (.last (s * 256+c) (k+1))
def MR.val:MR->Value
|.go t=>.tuple #[.agg t.v,.bool false,.int .i64 0]
|.block m p s=>.tuple #[.agg (MS 4 0 0 m p s 4),.bool true,.int .i64 0]
|.tail s=>.tuple #[.agg (MS 6 0 0 0 0 s 4),.bool true,.int .i64 0]
|.bad=>.tuple #[.agg (MS 0 0 0 0 0 0 0),.bool false,.int .i64 242]
def MR.ok (n:Int):MR->Prop
|.go t=>t.ok n
|.block m p s=>1<=m/\m<=n/\1<=p/\p<=m/\0<=s/\s < 4294967296
|.tail s=>0<=s/\s < 4294967296
|.bad=>True
theorem iH (h0:0<=s) (h1:s < 2 ^ (8 * k)) (c0:0<=c) (c1:c<=255):0<=s * 256+c/\s * 256+c < 2 ^ (8 * (k+1)):=by
 rw [show 8 * (k+1)=8 * k+8 by omega,Int.pow_add];have e:(2:Int) ^ 8=256:=by decide
 rw [e];omega
theorem QL (hk:k<=3) (h1:s < 2 ^ (8 * k)):s < 16777216:=by
 have e:k=0\/k=1\/k=2\/k=3:=by omega
 rcases e with rfl|rfl|rfl|rfl<;>simp at h1<;>omega
theorem MT.step_ok (n1:1<=n) (n2:n<=65536) {t:MT} (h:t.ok n) (c0:0<=c) (c1:c<=255):(t.step n c).ok n:=by
 cases t with
|mark =>
  simp only [MT.step];split
  ·exact ⟨by omega,by omega,by decide⟩
  ·split
   ·exact VM.zero (by omega)
   ·trivial
|mm V M =>
  simp only [MT.step];simp only [MT.ok] at h;split
  ·rename_i ho;split
   ·rename_i hd;have:=h.done ho hd;exact ⟨this.1,this.2,VM.zero (by omega)⟩
   ·rename_i hd;exact h.next n2 c0 c1 ho (by simpa using hd)
  ·trivial
|pp m V M =>
  simp only [MT.step];simp only [MT.ok] at h;split
  ·rename_i ho;split
   ·rename_i hd;have:=h.2.2.done ho hd;exact ⟨h.1,h.2.1,this.1,this.2,by omega,by omega,by decide⟩
   ·rename_i hd;exact ⟨h.1,h.2.1,h.2.2.next (by omega) c0 c1 ho (by simpa using hd)⟩
  ·trivial
|sum m p s k =>
  simp only [MT.step];simp only [MT.ok] at h;have hp:=iH (k:=k) h.2.2.2.2.2.1 h.2.2.2.2.2.2 c0 c1;split
  ·rename_i hk;subst hk;exact ⟨h.1,h.2.1,h.2.2.1,h.2.2.2.1,hp.1,by simpa using hp.2⟩
  ·exact ⟨h.1,h.2.1,h.2.2.1,h.2.2.2.1,by omega,hp.1,hp.2⟩
|last s k =>
  simp only [MT.step];simp only [MT.ok] at h;have hp:=iH (k:=k) h.2.1 h.2.2 c0 c1;split
  ·rename_i hk;subst hk;exact ⟨hp.1,by simpa using hp.2⟩
  ·exact ⟨by omega,hp.1,hp.2⟩
theorem Vo (n:Int) (n1:1<=n) (n2:n<=65536) (t:MT) (h:t.ok n) (c:Int) (c0:0<=c) (c1:c<=255) (w:World):Calls prog 101 #[.int .i64 n,.agg t.v,.int .u8 c] w fun x w'=>(x=.returned (t.step n c).val)/\Below w.heap.size w w':=by
 cases t with
|mark =>
  simp only [MT.step,MT.v];by_cases h0:c=0
  ·rw [if_pos h0,h0];exact zL n n1 n2 w
  ·rw [if_neg h0];by_cases h1:c=1
   ·rw [if_pos h1,h1];exact zK n n1 n2 w
   ·rw [if_neg h1];exact zJ n n1 n2 c (by omega) w
|mm V M =>
  simp only [MT.step,MT.v];simp only [MT.ok] at h;cases ho:EL V M c n with
 |false =>
   rw [if_neg (by decide)];cases hd:EZ M c with
  |true=>exact WB n n1 n2 V M c h.val h.m0 h.m4 c0 c1 h.le hd ho w
  |false=>exact XZ n n1 n2 V M c h.val h.m0 h.m4 c0 c1 h.le hd ho w
 |true =>
   rw [if_pos rfl];cases hd:EZ M c with
  |true=>rw [if_pos rfl];exact WA n n1 n2 V M c h.val h.m0 h.m4 c0 c1 h.le hd ho w
  |false=>rw [if_neg (by decide)];exact XY n n1 n2 V M c h.val h.m0 h.m4 c0 c1 h.le hd ho w
|pp m V M =>
  simp only [MT.step,MT.v];simp only [MT.ok] at h;obtain ⟨m0,m1,h⟩:=h;cases ho:EL V M c m with
 |false =>
   rw [if_neg (by decide)];cases hd:EZ M c with
  |true=>exact UC n n1 n2 m m0 m1 V M c h.val h.m0 h.m4 c0 c1 h.le hd ho w
  |false=>exact WH n n1 n2 m m0 m1 V M c h.val h.m0 h.m4 c0 c1 h.le hd ho w
 |true =>
   rw [if_pos rfl];cases hd:EZ M c with
  |true=>rw [if_pos rfl];exact UA n n1 n2 m m0 m1 V M c h.val h.m0 h.m4 c0 c1 h.le hd ho w
  |false=>rw [if_neg (by decide)];exact WG n n1 n2 m m0 m1 V M c h.val h.m0 h.m4 c0 c1 h.le hd ho w
|sum m p s k =>
  simp only [MT.step,MT.v];simp only [MT.ok] at h;obtain ⟨m0,m1,p0,p1,hk,s0,s1⟩:=h;by_cases h3:k=3
  ·subst h3;rw [if_pos rfl];exact rF n n1 n2 m p m0 m1 p0 p1 s c s0 s1 (QL hk s1) c0 c1 w
  ·rw [if_neg h3];exact zI n n1 n2 m p m0 m1 p0 p1 s k c (by omega) (by omega) s0 (by rw [show (8 * (k:Int)).toNat=8 * k by omega];exact s1) (QL hk s1) c0 c1 (by omega) w
|last s k =>
  simp only [MT.step,MT.v];simp only [MT.ok] at h;obtain ⟨hk,s0,s1⟩:=h;by_cases h3:k=3
  ·subst h3;rw [if_pos rfl];exact lg n n1 n2 s c s0 s1 (QL hk s1) c0 c1 w
  ·rw [if_neg h3];exact rH n n1 n2 s k c (by omega) (by omega) s0 (by rw [show (8 * (k:Int)).toNat=8 * k by omega];exact s1) (QL hk s1) c0 c1 (by omega) w
def WayP (x:Ending):HR->Prop
|.go t=>x=.returned (.tuple #[.agg t.v,.int .i64 0])
|.done n=>x=.returned (.tuple #[.agg (HS 4 0 0 n),.int .i64 0])
|.bad e=>∃ a V M n,x=.returned (.tuple #[.agg (HS a V M n),.int .i64 e])
theorem rway (t:HT) (ht:t.ok) (c:Int) (c0:0<=c) (c1:c<=255) (w:World):Calls prog 93 #[.agg t.v,.int .u8 c] w fun x w'=>WayP x (t.step c)/\Below w.heap.size w w':=by
 obtain ⟨a,V,M⟩:=t;rcases ht with ⟨a0,a1,hV,hM⟩|⟨ha,hv⟩
 ·simp only at a0 a1 hV hM;subst hV hM;have q0:a=0\/a=1\/a=2:=by omega
  clear a0 a1;rcases q0 with rfl|rfl|rfl
  ·by_cases hc:c=87
   ·subst hc;exact xaa
   ·have k1:(c == 87)=false:=by simpa using hc
    have k2:decide (c=87)=false:=by simpa using hc
    have k3:(c != 87)=true:=by simpa using hc
    have hs:HT.step ⟨0,0,0⟩ c=.bad 240:=by simp [HT.step,hc]
    rw [hs];clear hs hc;exact xab
  ·by_cases hc:c=80
   ·subst hc;exact xaa
   ·have k1:(c == 80)=false:=by simpa using hc
    have k2:decide (c=80)=false:=by simpa using hc
    have k3:(c != 80)=true:=by simpa using hc
    have hs:HT.step ⟨1,0,0⟩ c=.bad 240:=by simp [HT.step,hc]
    rw [hs];clear hs hc;exact xab
  ·by_cases hc:c=1
   ·subst hc;exact xaa
   ·have k1:(c == 1)=false:=by simpa using hc
    have k2:decide (c=1)=false:=by simpa using hc
    have k3:(c != 1)=true:=by simpa using hc
    have hs:HT.step ⟨2,0,0⟩ c=.bad 241:=by simp [HT.step,hc]
    rw [hs];clear hs hc;exact xab
 ·simp only at ha hv;subst ha;have CG:=h_ (A8s V M c 65536 hv.val hv.m0 hv.m4 hv.le c0 c1);have hs:HT.step ⟨3,V,M⟩ c=if EL V M c 65536 then (if EZ M c then .done (D5 V M c) else .go ⟨3,D5 V M c,EM M c⟩) else .bad 242:=rfl
  rw [hs];clear hs hv;generalize EL V M c 65536=o at *;generalize D5 V M c=v2 at *;generalize EM M c=m2 at *;generalize EZ M c=d at *;cases o with
 |false =>
   exact xab
 |true =>
   cases d with
  |false =>
    exact xaa
  |true =>
    exact xaa
end Go.Proofs.YtkpbhdhkdonghaaGreat
