/-
  Part 28 of the proof.
-/
import Derived.Test.YtkpbhdhkdonghaaGreatA20
import Derived.Test.YtkpbhdhkdonghaaGreatA27
set_option linter.all false
set_option maxHeartbeats 4000000
set_option maxRecDepth 100000
namespace Go.Proofs.YtkpbhdhkdonghaaGreat
open Go Go.RowKit
theorem VP {L:I_}:∀ (l:I_) (q:Int) (k:Nat) (b:DS) (out:I_) (a:Nat) (last:I_) (many:Nat),Dt L q k b l out a=.ok (last,many)->(last.length:Int)=out.length+b.left
|[],_,_,_,_,_,_,_,h=>by cases h
|x::r,q,k,b,out,a,last,many,h=>by
  rw [Dt] at h;have ih:=VP (L:=L) r;split at h
  ·split at h
   ·rename_i h0;have hd:=A8V b _ h0;split at h
    ·rename_i h1;have:=hd.2.2 h1;cases h;rw [List.length_append];push_cast;omega
    ·have h2:=ih _ _ _ _ _ _ _ h;rw [List.length_append] at h2;push_cast at h2;omega
   ·cases h
  ·exact ih _ _ _ _ _ _ _ h
theorem wW {L l last:I_} {m:Int} {many:Nat} (m1:1<=m) (m2:m<=65536) (h:Dt L 0 0 (dNew m) l [] 0=.ok (last,many)):(last.length:Int)=m:=by
 have:=VP l 0 0 (dNew m) [] 0 last many h;rw [this,Oi (by omega) (by omega)];simp
theorem VO {L:I_}:∀ (l:I_) (q:Int) (k:Nat) (b:DS) (out:I_) (a:Nat) (last:I_) (many:Nat),Dt L q k b l out a=.ok (last,many)->many<=a+l.length
|[],_,_,_,_,_,_,_,h=>by cases h
|x::r,q,k,b,out,a,last,many,h=>by
  rw [Dt] at h;have ih:=VO (L:=L) r;simp only [List.length_cons];split at h
  ·split at h
   ·split at h
    ·cases h;omega
    ·have:=ih _ _ _ _ _ _ _ h;omega
   ·cases h
  ·have:=ih _ _ _ _ _ _ _ h;omega
theorem xH (R:I_) (k:Nat):Bin (bitsOf R k):=by
 intro x hx;obtain ⟨i,_,rfl⟩:=List.mem_map.1 hx;exact KY R i
theorem xG {l:I_} (h:Bin l) (k:Nat):Bin (l.drop k):=fun x hx=>h x (List.mem_of_mem_drop hx)
theorem ql {R:I_} {j:Nat} (hj:j<=8 * R.length):(((bitsOf R (8 * R.length)).take (8 * ((j+7) / 8))).drop j).any (fun y=>decide (y=1))=!zpad R j:=by
 have hl:(bitsOf R (8 * R.length)).length=8 * R.length:=Ny _ _;have hu:8 * ((j+7) / 8)<=8 * R.length:=by omega
 have hg:∀ i,i < (((bitsOf R (8 * R.length)).take (8 * ((j+7) / 8))).drop j).length->gi (((bitsOf R (8 * R.length)).take (8 * ((j+7) / 8))).drop j) i=AP R (j+i):=by
  intro i hi;rw [BZ _ _ hi];simp [bitsOf]
 have hn:(((bitsOf R (8 * R.length)).take (8 * ((j+7) / 8))).drop j).length=8 * ((j+7) / 8) - j:=by
  rw [List.length_drop,List.length_take,hl];omega
 cases hz:zpad R j with
|true =>
  have h1:=List.all_eq_true.1 hz;refine Ua fun i hi=>?_;have h2:=of_decide_eq_true (h1 i (List.mem_range.2 (by omega)));rw [hg i hi,h2];decide
|false =>
  rw [zpad,List.all_eq_false] at hz;obtain ⟨i,hi,h1⟩:=hz;have hi:=List.mem_range.1 hi;have hb:=KY R (j+i);have h0:AP R (j+i) ≠ 0:=by simpa using h1
  exact Wh (k:=i) (by omega) (by rw [hg i (by omega)];omega)
variable {k:IntKind} {l:I_} {ss:List Sl} {xs:L_} {c i n:Nat} {a:Nat × A_} {ad:Option Addr} {A Z rs:Rws} {w w0:World}
theorem SL:∀ (l:I_) (t:TT) (i:Int),t.ok->Bin l->(Bv t l i).2.2=0->(Bv t l i).1.length=258/\Bytes (Bv t l i).1/\JL (Bv t l i).1=true
|[],_,_,_,_,h=>by simp [Bv] at h
|b::r,t,i,ho,hb,h=>by
  have ih:=SL r;have h0:=hb b (by simp);rw [Bv] at h ⊢;by_cases h1:(t.next b).2=true
  ·rw [if_pos h1] at h ⊢;have hn:=ho.next h0.1 h0.2 h1;by_cases h2:(t.next b).1.s=258
   ·rw [if_pos h2];rcases hn with hn|hn
    ·omega
    ·exact hn.2
   ·rw [if_neg h2] at h ⊢;rcases hn with hn|hn
    ·exact ih _ _ hn.2 (fun x hx=>hb x (List.mem_cons_of_mem _ hx)) h
    ·exact absurd hn.1 h2
  ·rw [if_neg h1] at h;simp at h
def A1y (w0:World) (o:Except Int (I_ × I_)) (rs:Rws) (ss:List Sl) (x:Ending) (w':World):Prop:=match o with
|.error e=>e ≠ 0/\x=.returned (.tuple #[.slice none 0 0,.slice none 0 0,.int .i64 e])/\Own w0 w' rs ss
|.ok (t,R)=>∃ X Y v u,x=.returned (.tuple #[v,u,.int .i64 0])/\Lies 1 X v t.length (vs .u8 t)/\Lies 1 Y u R.length (vs .u8 R)/\Own w0 w' (X++(Y++rs)) ss
theorem Lies.ny {X:Rws} {v:Value} (h:Lies 1 X v n (vs k l)) (hm:Own w0 w (A++(X++rs)) ss):In k w v l:=h.gZ hm
theorem In.sub {W:World} {j:Nat} (h:In k W (.slice ad l.length c) l) (hi:i<=j) (hj:j<=l.length) (hc:l.length<=c):In k W (.slice (D8 ad c i) (j - i) (c - i)) ((l.take j).drop i):=by
 obtain ⟨ad2,c2,he,hl⟩:=h;cases he;have hn:((l.take j).drop i).length=j - i:=by rw [List.length_drop,List.length_take];omega
 refine ⟨D8 ad c i,c - i,by rw [hn],fun q hq=>?_⟩;rw [hn] at hq;obtain ⟨A,h2,h3⟩:=hl (i+q) (by omega);subst h2;refine ⟨A.add i,by rw [D8,if_neg (by omega)];rfl,?_⟩;rw [Addr.add_add,h3];rw [BZ _ _ (by omega),BZ _ _ (by rw [hn];exact hq)];simp
theorem Lies.Pe {X:Rws} {v:Value} (h:Lies 1 X v n xs):∃ ad c,v=.slice ad n c/\n<=c:=by
 by_cases hn:0 < n
 ·obtain ⟨g,p,c,cells,_,rfl,hc,_⟩:=h.pos hn;exact ⟨_,c,rfl,hc⟩
 ·obtain ⟨ad,c,rfl⟩:=h.shape;exact ⟨ad,c,rfl,by omega⟩
theorem Ph {n:Int} (n1:1<=n) (n2:n<=65536):∀ (l:I_) (t:MT) (r:MR) (R:I_),t.ok n->Bytes l->BO n t l=.ok (r,R)->r.ok n/\Bytes R/\R.length < l.length
|[],_,_,_,_,_,h=>by cases h
|x::l,t,r,R,ht,hb,h=>by
  have h0:=hb x (by simp);have hok:=MT.step_ok n1 n2 ht h0.1 (show x<=255 by omega);have hb2:Bytes l:=fun y hy=>hb y (List.mem_cons_of_mem _ hy);rw [BO] at h;cases hr:MT.step n x t with
 |go t2 =>
   rw [hr] at h hok;have:=Ph n1 n2 l t2 r R hok hb2 h;exact ⟨this.1,this.2.1,by simp;omega⟩
 |block m p s=>rw [hr] at h hok;cases h;exact ⟨hok,hb2,by simp⟩
 |tail s=>rw [hr] at h hok;cases h;exact ⟨hok,hb2,by simp⟩
 |bad=>rw [hr] at h;cases h
theorem Own.unX1 (h:Own w0 w (Z++(a::rs)) ss):Own w0 w (a::(Z++rs)) ss:=h.perm (Fq Z [a] rs)
theorem A8W {b:DS} (h:Vl b.l) (s:Int):Bytes (FY b s).2.1:=by
 have hr:Bytes b.rep:=fun x hx=>by
  obtain ⟨_,rfl⟩:=List.mem_replicate.1 hx;exact h.bytes.gi 0 (by rw [h.len];decide)
 have hn:Bytes []:=fun x hx=>by cases hx
 rw [FY];split
 ·split
  ·rw [G9];split
   ·exact hn
   ·split
    ·exact hr
    ·split
     ·exact hn
     ·intro x hx;rcases List.mem_append.1 hx with hx|hx
      ·exact hr x hx
      ·obtain rfl:x=takeC b.l (s - 1):=by simpa using hx
       exact XT h _
  ·exact hn
 ·exact hn
theorem nX {a b:I_} (ha:Bytes a) (hb:Bytes b):Bytes (a++b):=fun x hx=>by
 rcases List.mem_append.1 hx with hx|hx
 ·exact ha x hx
 ·exact hb x hx
theorem TU {L:I_}:∀ (l:I_) (q:Int) (k:Nat) (b:DS) (out:I_) (a:Nat) (last:I_) (many:Nat),Vl b.l->Bytes out->Dt L q k b l out a=.ok (last,many)->Bytes last
|[],_,_,_,_,_,_,_,_,_,h=>by cases h
|x::r,q,k,b,out,a,last,many,hv,ho,h=>by
  rw [Dt] at h;have ih:=TU (L:=L) r;have hb:=nX ho (A8W hv (pfs L q k x).2.2.1);split at h
  ·split at h
   ·split at h
    ·cases h;exact hb
    ·exact ih _ _ _ _ _ _ _ (Xu hv _) hb h
   ·cases h
  ·exact ih _ _ _ _ _ _ _ hv ho h
open Go Tryz Go.RowKit
variable {p s:Int} {l out t:I_} {ss:List Sl} {g:Nat} {a b:Nat × A_} {T Y Z rs:Rws} {u:Value} {w w0:World}
theorem SQ:∀ (l:I_) (t:TT) (i:Int),t.ok->Bin l->(Bv t l i).1.length=258
|[],_,_,_,_=>Az
|b::r,t,i,ho,hb=>by
  have ih:=SQ r;have h0:=hb b (by simp);rw [Bv];by_cases h1:(t.next b).2=true
  ·rw [if_pos h1];have hn:=ho.next h0.1 h0.2 h1;by_cases h2:(t.next b).1.s=258
   ·rw [if_pos h2];rcases hn with hn|hn
    ·omega
    ·exact hn.2.1
   ·rw [if_neg h2];rcases hn with hn|hn
    ·exact ih _ _ hn.2 (fun x hx=>hb x (List.mem_cons_of_mem _ hx))
    ·exact absurd hn.1 h2
  ·rw [if_neg h1];exact Az
theorem xw (h:bwk out p.toNat out.length 0 []=none):chk out p s=.error 170:=by rw [chk,h]
theorem xu (h:bwk out p.toNat out.length 0 []=some t):chk out p s=if crc 0 [t.reverse]=s then .ok t.reverse else .error 250:=by rw [chk,h]
theorem Own.re1 {X:Rws} (h:Own w0 w (Y++(a::b::(Z++(X++rs)))) ss):Own w0 w (b::(Z++(Y++(X++rs)))) ss:=(h.perm (by
 have e:=Fq Y ([a,b]++Z) (X++rs)
 simpa only [s2,l_a] using e):Own w0 w (a::b::(Z++(Y++(X++rs)))) ss).dropRow
theorem Own.re2 {X:Rws} (h:Own w0 w (T++(a::b::(Z++(Y++(X++rs))))) ss):Own w0 w (b::(T++(X++rs))) ss:=(h.perm (Fq T [a,b] (Z++(Y++(X++rs)))):Own w0 w (a::b::(T++(Z++(Y++(X++rs))))) ss).sub (((List.Sublist.append (List.Sublist.refl T) ((List.sublist_append_right Y _).trans (List.sublist_append_right Z _))).cons_cons b).cons a) (List.Sublist.refl _)
theorem Own.re3 {X V:Rws} (h:Own w0 w (V++(a::b::(T++(X++rs)))) ss):Own w0 w (T++(V++rs)) ss:=(h.perm (by
 have e:=Fq V ([a,b]++T) (X++rs)
 simpa only [s2,l_a] using e):Own w0 w (a::b::(T++(V++(X++rs)))) ss).sub (((List.Sublist.append (List.Sublist.refl T) (List.Sublist.append (List.Sublist.refl V) (List.sublist_append_right X rs))).cons b).cons a) (List.Sublist.refl _)
theorem InS.onu (h:Own w0 w ((g,#[u])::rs) ss) (hu:In .u8 w u l):InS w (.slice (some ⟨g,0,none⟩) 1 1) [l]:=by
 refine ⟨_,_,rfl,fun i hi=>⟨_,u,rfl,?_,?_⟩⟩
 ·obtain rfl:i=0:=by simpa using hi
  exact Iz (h.row 0 rfl) 0 rfl
 ·obtain rfl:i=0:=by simpa using hi
  exact hu
theorem aN (v:Value) (n:Int) (n1:1<=n) (n2:n<=65536) (l:I_) (m p s:Int) (R:I_) (hR:BO n .mark l=.ok (.block m p s,R)) (w0 w:World) (rs:Rws) (ss:List Sl) (hm:Own w0 w rs ss) (hv:∀ W,Own w0 W rs ss->InC .u8 W v l) (hb:Bytes l) (hn:l.length<=1000):Calls prog 47 #[.int .i64 n,v] w (A1y w0 (Ik m p s R) rs ss):=by
 obtain ⟨hok,hRB,hRl⟩:=Ph n1 n2 l .mark _ R trivial hb hR;obtain ⟨pn,rfl⟩:∃ k:Nat,p=k:=⟨p.toNat,by have:=hok;simp only [MR.ok] at this;omega⟩
 have C46:Hid (∀ W,Own w0 W rs ss->Calls prog 46 #[.int .i64 n,v] W fun x w'=>∃ X v,x=.returned (.tuple #[.agg (MS 4 0 0 m pn s 4),v,.int .i64 0])/\Lies 1 X v R.length (vs .u8 R)/\Own w0 w' (X++rs) ss):=h_ fun W h=>by
  have h2:=VB v n n1 n2 l w0 W rs ss h hv hb hn;rw [hR] at h2;exact h2
 have C102:Hid (∀ W (g:Nat × A_) X v2,Lies 1 X v2 R.length (vs .u8 R)->Own w0 W (g::(X++rs)) ss->Calls prog 102 #[v2] W (kE w0 (bitsOf R (8 * R.length)) (g::(X++rs)) ss)):=h_ fun W g X v2 hX h=>fJ v2 R w0 W _ ss h (fun W h=>hX.gZ (A:=[g]) h) hRB (by omega);have hlen:(bitsOf R (8 * R.length)).length=8 * R.length:=Ny _ _;have hbin:=xH R (8 * R.length)
 have hG:Ik m pn s R=if (Bv TT0 (bitsOf R (8 * R.length)) 0).2.2=0 then
  match Dt (Bv TT0 (bitsOf R (8 * R.length)) 0).1 0 0 (dNew m) ((bitsOf R (8 * R.length)).drop (Bv TT0 (bitsOf R (8 * R.length)) 0).2.1.toNat) [] 0 with
 |.error e=>.error e
 |.ok (last,many)=>if zpad R ((Bv TT0 (bitsOf R (8 * R.length)) 0).2.1.toNat+many) then
    (match chk last pn s with
   |.error e=>.error e
   |.ok t=>.ok (t,R.drop (((Bv TT0 (bitsOf R (8 * R.length)) 0).2.1.toNat+many+7) / 8)))
   else .error 160
 else .error (Bv TT0 (bitsOf R (8 * R.length)) 0).2.2:=rfl
 have hZP:=fun j (hj:j<=8 * R.length)=>ql (R:=R) hj;have htab:=SL (bitsOf R (8 * R.length)) TT0 0 XK hbin;have hfirst:=Nw (bitsOf R (8 * R.length)) TT0 0;have HG:=h_ hG;have HRL:=h_ hRl;have HZP:=h_ hZP;have HBI:=h_ hbin;clear hZP;have hbl:(bitsOf R (8 * R.length)).length<=10000:=by rw [hlen];omega
 clear hG hb hv hR hRl;generalize bitsOf R (8 * R.length)=bits at *;have C103:Hid (∀ W (g:Nat × A_) X Z v2,Lies 1 Z v2 bits.length (vs .i64 bits)->Own w0 W (g::(Z++(X++rs))) ss->Calls prog 103 #[v2] W fun e w'=>(e=.returned (.tuple #[.agg (J .u8 (Bv TT0 bits 0).1),.int .i64 (Bv TT0 bits 0).2.1,.int .i64 (Bv TT0 bits 0).2.2]))/\Below W.heap.size W w'):=h_ fun W g X Z v2 hZ h=>SN v2 bits W (hZ.gZ (A:=[g]) h) hbin (by omega);have HBL:=h_ hbl;clear hbl;have hLL:=SQ bits TT0 0 XK hbin;have HL:=h_ hLL;have HTB:=h_ htab;have HFI:=h_ hfirst;clear htab hfirst hLL;generalize Bv TT0 bits 0=tb at *;obtain ⟨L,first,e⟩:=tb;by_cases he:e=0
 ·subst he;have hf:0 < first/\first<=0+bits.length:=HFI.out rfl
  have htb:L.length=258/\Bytes L/\JL L=true:=HTB.out rfl;obtain ⟨f,rfl⟩:∃ f:Nat,first=(f:Int):=⟨first.toNat,by omega⟩
  have hfl:f<=bits.length:=by omega
  have hf0:0 < f:=by omega
  obtain ⟨i3,hE⟩:=nR;have HE:=h_ hE;have HLEN:=h_ hlen;have HB2:Hid (Bin (bits.drop f)):=h_ (xG hbin f);clear hlen hbin hf HTB HFI hE;obtain ⟨hL1,hL2,hL3⟩:=htb;have HTL:=h_ hL2;have HTK:=h_ hL3;clear hL1 hL2 hL3;obtain ⟨hm1,hm2⟩:1<=m/\m<=65536:=⟨by have:=hok;simp only [MR.ok] at this;omega,by have:=hok;simp only [MR.ok] at this;omega⟩
  have CC:Hid (∀ W X Z adZ cZ (a b:Nat × A_),bits.length<=cZ->Lies 1 Z (.slice adZ bits.length cZ) bits.length (vs .i64 bits)->Own w0 W (a::b::(Z++(X++rs))) ss->Calls prog 104 #[.int .i64 m,.agg (J .u8 L),.slice (D8 adZ cZ f) (bits.length - f) (cZ - f)] W (kL w0 (Dt L 0 0 (dNew m) (bits.drop f) [] 0) (a::b::(Z++(X++rs))) ss)):=h_ fun W X Z adZ cZ a b hc hZ h=>fA m hm1 hm2 L HL.out HTL.out HTK.out _ (bits.drop f) w0 W _ ss h (fun W h=>by
   have:=(hZ.ny (A:=[a,b]) h).sub (i:=f) (j:=bits.length) hfl (by omega) hc
   rwa [List.take_length] at this) HB2.out (by rw [List.length_drop];have:=HBL.out;omega)
  have HCM:=h_ (fun last many=>wW (L:=L) (l:=bits.drop f) (last:=last) (many:=many) hm1 hm2);have HCN:=h_ (fun last many=>VO (L:=L) (bits.drop f) 0 0 (dNew m) [] 0 last many);have HCB:=h_ (fun last many=>TU (L:=L) (bits.drop f) 0 0 (dNew m) [] 0 last many (Xw hm1 hm2) (fun x hx=>by cases hx))
  have hO:(if (0:Int)=0 then
   match Dt L 0 0 (dNew m) (bits.drop (f:Int).toNat) [] 0 with
  |.error e=>.error e
  |.ok (last,many)=>if zpad R ((f:Int).toNat+many) then
     (match chk last pn s with
    |.error e=>.error e
    |.ok t=>.ok (t,R.drop (((f:Int).toNat+many+7) / 8)))
    else .error 160
  else .error 0:Except Int (I_ × I_))=match Dt L 0 0 (dNew m) (bits.drop f) [] 0 with
  |.error e=>.error e
  |.ok (last,many)=>if zpad R (f+many) then
     (match chk last pn s with
    |.error e=>.error e
    |.ok t=>.ok (t,R.drop ((f+many+7) / 8)))
    else .error 160:=rfl
  have HG2:=h_ (HG.out.trans hO);clear hO HG;generalize Ik m pn s R=res at *;generalize Dt L 0 0 (dNew m) (bits.drop f) [] 0=o at *;go_enter func47,ntmps47
  go_upto_region 10 with (first
   |(with_reducible first|(refine wa 88 hm FM ?_;clear hm;intro w g7 hm)|(refine ws 88 0 hm ?_;clear hm;intro w hm))
   |(go_at_call 46;have _t:=hm;refine (C46.out _ hm).mono ?_;clear _t hm;rintro x w1 ⟨X,v2,rfl,hX,hm⟩;obtain ⟨adX,cX,rfl,hcX⟩:=hX.Pe;have HX:=h_ hX;clear hX)
   |(with_reducible refine wl 3 0 hm ?_)
   |(go_at_call 102;have _t:=hm;refine (C102.out _ _ _ _ HX.out hm).mono ?_;clear _t hm;rintro x w1 ⟨Z,vz,rfl,hZ,hm⟩;obtain ⟨adZ,cZ,rfl,hcZ⟩:=hZ.Pe;have HZ:=h_ hZ;clear hZ;replace hm:=hm.unX1)
   |(go_at_call 103;have _t:=C103.out _ _ _ _ _ HZ.out hm;refine _t.mono ?_;clear _t;rintro x w1 ⟨rfl,hb⟩;replace hm:=hm.call hb;clear hb)
   |(with_reducible first|(refine wa 139 hm aC ?_;clear hm;intro w g9 hm)|(refine ws 139 0 hm ?_ (ht:=c_z (F5 HL.out)) (hs:=c_z (WC HL.out Az)) (h1:=c_z (J_one _ _));clear hm;intro w hm)))
  refine rO hm 7 (.rds [(0,false),(1,false),(2,true),(3,true),(4,false),(5,false),(6,false)] (.brk 7 15 (.rds [(8,false),(9,false),(10,false),(11,false),(12,false),(13,false),(14,false)] .done))) ?_;clear hm;intro w hm;simp only [KT.rds]
  iterate 2 refine kq ?_
  refine km (fun W hm=>ld 1 hm rfl rfl rfl (ot rfl) rfl) ?_;refine km (fun W hm=>lda 0 hm rfl rfl rfl (F5 HL.out)) ?_
  iterate 2 refine kq ?_
  (refine K_p rfl rfl (fun W=>A2Y (l:=f) (h:=bits.length) rfl HE.out rfl (.inr ⟨_,rfl⟩) (.inl ⟨rfl,rfl⟩) hfl hcZ) ?_)
  try simp only [Act.put,s3]
  refine PO rfl rfl (fun K hK=>?_);go_simp;refine (CC.out _ _ _ _ _ _ _ hcZ HZ.out hm).mono ?_;intro x w1 hx;clear hm;cases o with
 |error e =>
   obtain ⟨he,rfl,hm⟩:=hx;have q1:(e != 0)=true:=by simpa using he
   have HE0:=h_ he;clear he;refine hK _ _ ⟨fun W=>Own _ W _ _,hm,?_⟩;clear hK K
   iterate 7 refine kq ?_
   refine Ba ?_;go_simp;go_wp2;refine b_r (results_tmp3 rfl _ _ _) rfl ?_;rw [HG2.out];exact ⟨HE0.out,rfl,hm.sub (((List.sublist_append_right X rs).trans (List.sublist_append_right Z _)).cons _ |>.cons _) (List.Sublist.refl _)⟩
 |ok o =>
   obtain ⟨last,many⟩:=o;obtain ⟨Y,vY,rfl,hY,hm⟩:=hx;replace hm:=hm.re1;obtain ⟨adY,cY,rfl,hcY⟩:=hY.Pe;have HY:=h_ hY;clear hY;refine hK _ _ ⟨fun W=>Own _ W _ _,hm,?_⟩;clear hK K
   iterate 7 refine kq ?_
   refine Ba ?_;go_simp;have hmany:=HCN.out last many rfl;have hlast:=HCM.out last many rfl;rw [List.length_drop] at hmany;have hl8:=HLEN.out;have hRp:0 < R.length:=by omega
   obtain ⟨AX,rfl⟩:∃ A,adX=some A:=by
    obtain ⟨g,p,c,cells,_,he,_⟩:=HX.out.pos hRp;cases he;exact ⟨_,rfl⟩
   obtain ⟨j,hj⟩:∃ j,j=f+many:=⟨_,rfl⟩;obtain ⟨u,hu⟩:∃ u,u=(j+7) / 8:=⟨_,rfl⟩;have hju:j<=u * 8:=by omega
   have hub:u * 8<=bits.length:=by omega
   have huc:u * 8<=cZ:=by omega
   have huR:u<=R.length:=by omega
   have hbl:=HBL.out;have hjb:j<=100000:=by omega
   have hub8:u * 8<=100000:=by omega
   have HZPj:Hid (((bits.take (u * 8)).drop j).any (fun y=>decide (y=1))=!zpad R j):=h_ (by rw [Nat.mul_comm,hu];exact HZP.out j (by omega))
   have HG3:Hid (res=if zpad R j then (match chk last pn s with
    |.error e=>.error e
    |.ok t=>.ok (t,R.drop u)) else .error 160):=h_ (by rw [HG2.out,hu,hj])
   clear HG2;have hp:1<=pn/\(pn:Int)<=m:=by have:=hok;simp only [MR.ok] at this;omega
   have hpl:pn<=last.length:=by omega
   have hl0:0 < last.length:=by omega
   have hlm:last.length<=65536:=by omega
   have C105:Hid (∀ W {a:Nat × A_},Own w0 W (a::(Z++(Y++(X++rs)))) ss->Calls prog 105 #[.slice (D8 adZ cZ j) (u * 8 - j) (cZ - j),.int .i64 1] W fun x w'=>(x=.returned (.bool (!zpad R j)))/\Below W.heap.size W w'):=h_ fun W a h=>by
    have:=UZ _ _ W ((HZ.out.ny (A:=[a]) h).sub (i:=j) (j:=u * 8) hju hub hcZ) (by rw [List.length_drop,List.length_take];omega);rwa [HZPj.out] at this
   have e2:Hid (((f:Int)+many+7) / 8=(u:Int)):=h_ (by omega);subst hj;have HJU:=h_ hju;have HUC:=h_ huc;have HUR:=h_ huR;have HP:=h_ hp;have HPL:=h_ hpl;have HL0:=h_ hl0;have HLB:=h_ (HCB.out last many rfl);have HLM:=h_ hlm;clear hmany hl8 hlast hu hju huc huR hp hpl hl0 hlm hub hbl hRp hfl hf0
   go_upto_region 14 with fail
   rw [e2.out];have C27:Hid (∀ W {a:Nat × A_},Own w0 W (a::(Z++(Y++(X++rs)))) ss->Calls prog 27 #[.slice adY last.length cY,.int .i64 pn] W (aB w0 (bwk last pn last.length 0 []) last.length (a::(Z++(Y++(X++rs)))) ss)):=h_ fun W a h=>xJ _ last pn w0 W _ ss h (fun W h=>HY.out.ny (A:=a::Z) h) HLB.out HP.out.1 HPL.out (by have:=HLM.out;omega);have HGN:Hid (zpad R (f+many)=false->res=.error 160):=h_ fun h=>by rw [HG3.out,h];rfl
   have HGM:Hid (zpad R (f+many)=true->bwk last pn last.length 0 []=none->res=.error 170):=h_ fun h h2=>by rw [HG3.out,h,xw (p:=pn) h2];rfl
   have HGS:Hid (zpad R (f+many)=true->∀ t,bwk last pn last.length 0 []=some t->res=if crc 0 [t.reverse]=s then .ok (t.reverse,R.drop u) else .error 250):=h_ fun h t h2=>by
    rw [HG3.out,h,xu (p:=pn) h2];by_cases hc:crc 0 [t.reverse]=s
    ·rw [if_pos hc,if_pos hc];rfl
    ·rw [if_neg hc,if_neg hc];rfl
   clear HG3 HZPj;generalize zpad R (f+many)=z at *;cases z with
  |false =>
    have HRN:=h_ (HGN.out rfl);clear HGN HGM HGS
    go_wp2_with (first
     |(go_at_call 105;have _t:=hm;refine (C105.out _ hm).mono ?_;clear _t;rintro x w1 ⟨rfl,hb⟩;replace hm:=hm.call hb;clear hb)
     |(with_reducible refine gSl ?_;(refine A8 rfl (A2Y (l:=f+many) (h:=u * 8) rfl HE.out rfl (.inr ⟨_,rfl⟩) (.inr ⟨_,rfl⟩) HJU.out HUC.out) ?_)))
    exact xce
  |true =>
    have HGM2:=h_ (HGM.out rfl);have HGS2:=h_ (HGS.out rfl);clear HGN HGM HGS;generalize bwk last pn last.length 0 []=ob at *;cases ob with
   |none =>
     have HRN:=h_ (HGM2.out rfl);clear HGM2 HGS2
     go_wp2_with (first
      |(go_at_call 105;have _t:=hm;refine (C105.out _ hm).mono ?_;clear _t;rintro x w1 ⟨rfl,hb⟩;replace hm:=hm.call hb;clear hb)
      |(with_reducible refine gSl ?_;(refine A8 rfl (A2Y (l:=f+many) (h:=u * 8) rfl HE.out rfl (.inr ⟨_,rfl⟩) (.inr ⟨_,rfl⟩) HJU.out HUC.out) ?_))
      |(with_reducible refine wl 3 0 hm ?_)
      |(go_at_call 27;have _t:=hm;refine (C27.out _ hm).mono ?_;clear _t hm;rintro x w1 ⟨rfl,hm⟩))
     exact xce
   |some t =>
     have HRS:=h_ (HGS2.out t rfl);clear HGM2 HGS2;have C106:Hid (∀ W (gT:Nat) {a:Nat × A_},t.length=last.length->Own w0 W ((gT,J .u8 t)::a::(Z++(Y++(X++rs)))) ss->Calls prog 106 #[.slice (some ⟨gT,0,none⟩) last.length last.length] W fun x w'=>∃ T v,x=.returned v/\Lies 1 T v t.length (vs .u8 t.reverse)/\Own w0 w' (a::(T++(X++rs))) ss):=h_ fun W gT a hT h=>(ZJ _ t w0 W _ ss h (fun W h=>Src.Pm (h.row 0 rfl) 0 _ _ (vs .u8 t) (by rw [Ai,hT]) (fun j u hu=>by rw [Nat.zero_add,J,List.getElem?_toArray];exact hu)) (by have:=HLM.out;omega) (by have:=HL0.out;omega)).mono fun x w' ⟨T,v,e,h1,h2⟩=>⟨T,v,e,h1,h2.re2⟩
     go_upto_region 20 with (first
      |(go_at_call 105;have _t:=hm;refine (C105.out _ hm).mono ?_;clear _t;rintro x w1 ⟨rfl,hb⟩;replace hm:=hm.call hb;clear hb)
      |(with_reducible refine gSl ?_;(refine A8 rfl (A2Y (l:=f+many) (h:=u * 8) rfl HE.out rfl (.inr ⟨_,rfl⟩) (.inr ⟨_,rfl⟩) HJU.out HUC.out) ?_))
      |(with_reducible refine wl 3 0 hm ?_)
      |(go_at_call 27;have _t:=hm;refine (C27.out _ hm).mono ?_;clear _t hm;rintro x w1 ⟨gT,hTn,rfl,hm⟩;have HTN:=h_ hTn;clear hTn)
      |(go_at_call 106;have _t:=hm;refine (C106.out _ _ HTN.out hm).mono ?_;clear _t hm;rintro x w1 ⟨T,vT,rfl,hT,hm⟩;obtain ⟨adT,cT,rfl⟩:=hT.shape;have HT:=h_ hT;clear hT))
     have CF:Hid (∀ W (gq:Nat) {a:Nat × A_},Own w0 W ((gq,#[.slice adT t.length cT])::a::(T++(X++rs))) ss->Calls prog 48 #[.slice (some ⟨gq,0,none⟩) 1 1] W fun e w'=>(e=.returned (.int .u32 (crc 0 [t.reverse])))/\Below W.heap.size W w'):=h_ fun W gq a h=>jM _ [t.reverse] W (InS.onu h (HT.out.ny (A:=[(gq,#[.slice adT t.length cT]),a]) h)) (by
      intro p hp;obtain rfl:p=t.reverse:=by simpa using hp
      rw [List.length_reverse,HTN.out];have:=HLM.out;omega) (by simp)
     have C99:Hid (∀ W {a b:Nat × A_},Own w0 W (a::b::(T++(X++rs))) ss->Calls prog 99 #[.slice (D8 (some AX) cX u) (R.length - u) (cX - u)] W fun x w'=>∃ V v,x=.returned v/\Lies 1 V v (R.length - u) (vs .u8 (R.drop u))/\Own w0 w' (T++(V++rs)) ss):=h_ fun W a b h=>(clone_any _ (R.drop u) W (In.from (HX.out.ny (A:=a::b::T) h) HUR.out hcX) (by rw [List.length_drop];have:=HRL.out;omega)).mono fun x w' hx=>by
      obtain ⟨V,v,e,h1,h2⟩:=h.ofB hx;rw [List.length_drop] at h1;exact ⟨V,v,e,h1,h2.re3⟩
     clear C105 C27 C106;obtain ⟨i34,hE34⟩:=wO;have HE34:=h_ hE34;obtain ⟨i22,hE22⟩:=A4t;have HE22:=h_ hE22;clear hE34 hE22;generalize crc 0 [t.reverse]=c at *;refine rO hm 7 (.rds [(0,false),(3,false),(4,false),(5,true)] (.one 1 (.one 2 (.rds [(6,false)] .done)))) ?_;clear hm;intro w hm;simp only [KT.rds]
     iterate 3 refine kq ?_
     refine km (fun W hm=>ld 0 hm rfl rfl rfl (ot rfl) rfl) ?_
     (refine Bo rfl rfl (JQ hm rfl HE34.out (Ac rfl) rfl ?_))
     clear hm;intro w gq hm;refine ⟨fun W=>Own _ W _ _,fun _ h=>h,hm.dropRow,?_⟩
     try simp only [Act.put,s3]
     refine DJ rfl rfl (fun K hK=>?_);go_simp;refine (CF.out _ _ hm).mono ?_;rintro e w1 ⟨rfl,hb⟩;replace hm:=hm.call hb;clear hb;refine hK _ _ ⟨fun W=>Own _ W _ _,fun _ h=>h,hm.dropRow,?_⟩;clear hK K;refine kq ?_;refine Ba ?_;go_simp;by_cases hc:c=s
     ·subst hc;have HRR:=h_ (HRS.out.trans (if_pos rfl));clear HRS
      go_wp2_with (first
       |(with_reducible refine gSl ?_;(refine A8 rfl (A2Y (l:=u) (h:=R.length) rfl HE22.out rfl (.inr ⟨_,rfl⟩) (.inl ⟨rfl,rfl⟩) HUR.out hcX) ?_))
       |(go_at_call 99;have _t:=hm;refine (C99.out _ hm).mono ?_;clear _t hm;rintro x w1 ⟨V,vV,rfl,hV,hm⟩;obtain ⟨adV,cV,rfl⟩:=hV.shape;have HV:=h_ hV;clear hV))
      refine b_r (results_tmp3 rfl _ _ _) rfl ?_;rw [HRR.out];exact ⟨T,V,_,_,rfl,by rw [List.length_reverse];exact HT.out,by rw [List.length_drop];exact HV.out,hm⟩
     ·have HRR:=h_ (HRS.out.trans (if_neg hc));have q2:(c != s)=true:=by simpa using hc
      have q3:decide (c=s)=false:=by simpa using hc
      have q4:(c == s)=false:=by simpa using hc
      clear HRS hc;go_wp2;refine b_r (results_tmp3 rfl _ _ _) rfl ?_;rw [HRR.out];exact ⟨by decide,rfl,hm.sub (((((List.sublist_append_right X rs).trans (List.sublist_append_right T _)).cons _).cons _)) (List.Sublist.refl _)⟩
 ·have q1:(e != 0)=true:=by simpa using he
  have HE0:=h_ he;have HGN:Hid (Ik m pn s R=.error e):=h_ (HG.out.trans (if_neg he));clear he HG HTB HFI hlen hbin;go_enter func47,ntmps47
  go_wp2_with (first
   |(with_reducible first|(refine wa 88 hm FM ?_;clear hm;intro w g7 hm)|(refine ws 88 0 hm ?_;clear hm;intro w hm))
   |(go_at_call 46;have _t:=hm;refine (C46.out _ hm).mono ?_;clear _t hm;rintro x w1 ⟨X,v2,rfl,hX,hm⟩;obtain ⟨adX,cX,rfl,hcX⟩:=hX.Pe;have HX:=h_ hX;clear hX)
   |(with_reducible refine wl 3 0 hm ?_)
   |(go_at_call 102;have _t:=hm;refine (C102.out _ _ _ _ HX.out hm).mono ?_;clear _t hm;rintro x w1 ⟨Z,vz,rfl,hZ,hm⟩;obtain ⟨adZ,cZ,rfl,hcZ⟩:=hZ.Pe;have HZ:=h_ hZ;clear hZ;replace hm:=hm.unX1)
   |(go_at_call 103;have _t:=C103.out _ _ _ _ _ HZ.out hm;refine _t.mono ?_;clear _t;rintro x w1 ⟨rfl,hb⟩;replace hm:=hm.call hb;clear hb)
   |(with_reducible first|(refine wa 139 hm aC ?_;clear hm;intro w g9 hm)|(refine ws 139 0 hm ?_ (ht:=c_z (F5 HL.out)) (hs:=c_z (WC HL.out Az)) (h1:=c_z (J_one _ _));clear hm;intro w hm)))
  refine b_r (results_tmp3 rfl _ _ _) rfl ?_;rw [HGN.out];exact ⟨HE0.out,rfl,hm.sub ((((List.sublist_append_right X rs).trans (List.sublist_append_right Z _)).cons _).cons _) (List.Sublist.refl _)⟩
variable {e m n p s:Int} {left out r2 rest t x:I_} {b f:Nat}
theorem Va:∀ (l:I_) (t:HT) (n:Int) (R:I_),t.ok->Bytes l->A7e t l=.ok (n,R)->1<=n/\n<=65536/\Bytes R/\R.length < l.length
|[],_,_,_,_,_,h=>by cases h
|x::l,t,n,R,ht,hb,h=>by
  have h0:=hb x (by simp);have hok:=HT.step_ok ht h0.1 (show x<=255 by omega);have hb2:Bytes l:=fun y hy=>hb y (List.mem_cons_of_mem _ hy);rw [A7e] at h;cases hr:t.step x with
 |go t2 =>
   rw [hr] at h hok;have:=Va l t2 n R hok hb2 h;exact ⟨this.1,this.2.1,this.2.2.1,by simp;omega⟩
 |done k=>rw [hr] at h hok;cases h;exact ⟨hok.1,hok.2,hb2,by simp⟩
 |bad e=>rw [hr] at h;cases h
theorem jQ (l:I_) (index:Nat):∀ (k r:Nat) (acc t:I_),bwk l index k r acc=some t->t.length=k+acc.length
|0,r,acc,t,h=>by
  rw [bwk] at h;split at h
  ·cases h;simp
  ·cases h
|k+1,r,acc,t,h=>by
  rw [bwk] at h;split at h
  ·cases h
  ·have:=jQ l index k _ _ t h;rw [this,List.length_cons];omega
theorem jP (h:chk out p s=.ok t):t.length=out.length:=by
 rw [chk] at h;cases hb:bwk out p.toNat out.length 0 [] with
|none=>rw [hb] at h;cases h
|some x =>
  rw [hb] at h;simp only at h;split at h
  ·cases h;rw [List.length_reverse,jQ _ _ _ _ _ _ hb];simp
  ·cases h
theorem Ye {R:I_} (m1:1<=m) (m2:m<=65536) (h:Ik m p s R=.ok (t,r2)):(t.length:Int)=m/\∃ k,r2=R.drop k:=by
 rw [Ik] at h;split at h
 ·split at h
  ·cases h
  ·rename_i last many hc;split at h
   ·split at h
    ·cases h
    ·rename_i x hx;cases h;rw [jP hx];exact ⟨wW m1 m2 hc,_,rfl⟩
   ·cases h
 ·cases h
def A1z (w0:World) (o:I_ × Nat × Int) (rs:Rws) (ss:List Sl) (x:Ending) (w':World):Prop:=∃ X v,x=.returned (.tuple #[v,.int .i64 o.2.1,.int .i64 o.2.2])/\Lies 1 X v o.1.length (vs .u8 o.1)/\Own w0 w' (X++rs) ss
def Ij (l:I_):I_ × Nat × Int:=match A7e ⟨0,0,0⟩ l with
|.error e=>([],0,e)
|.ok (n,R)=>IW n (R.length+1) R [] 0
theorem bQ (h:BO n .mark left=.error e):IW n (f+1) left x b=(x,b,e):=by rw [IW,h]
theorem bP (h:BO n .mark left=.ok (.tail s,rest)):IW n (f+1) left x b=if s=crc 0 [x] then (if 0 < rest.length then (x,b,261) else (x,b,0)) else (x,b,260):=by rw [IW,h]
theorem lM {n m p s:Int} {f:Nat} {left x rest:I_} {b:Nat} (h:BO n .mark left=.ok (.block m p s,rest)):IW n (f+1) left x b=match Ik m p s rest with
  |.error e=>(x,b,e)
  |.ok (t,r2)=>IW n f r2 (x++t) (b+1):=by rw [IW,h];rfl
theorem RG {n:Int}:∀ (l:I_) (t:MT) (r:MR) (R:I_),BO n t l=.ok (r,R)->(∃ m p s,r=.block m p s)\/∃ s,r=.tail s
|[],_,_,_,h=>by cases h
|x::l,t,r,R,h=>by
  rw [BO] at h;cases hr:MT.step n x t with
 |go t2=>rw [hr] at h;exact RG l t2 r R h
 |block m p s=>rw [hr] at h;cases h;exact .inl ⟨_,_,_,rfl⟩
 |tail s=>rw [hr] at h;cases h;exact .inr ⟨_,rfl⟩
 |bad=>rw [hr] at h;cases h
theorem Uw {P:Program} {a:Act} {w:World} {Q:Exit->P_} {c rest:Code} (l:Nat) (J:P_) (μ:Act->World->Nat) (hf:findLabel c l=some (Code.seq .skip rest))
  (pass:∀ a w,J a w->rest.wp P (Exit.jump l (fun a' w'=>J a' w'/\μ a' w' < μ a w) Q) a w)
  (first:(∀ a w,J a w->rest.wp P (Exit.jump l J Q) a w)->c.wp P (Exit.jump l J Q) a w):(Code.scope c).wp P Q a w :=
 wp_scope_jumps l J μ hf (first fun a w h=>wp_mono (pass a w h) (fun e a w he=>by cases e<;>first|exact he|exact ⟨he.1,he.2.1⟩)) fun a w h=>wp_seq (wp_skip (pass a w h))
theorem sz80 (m n:Int):(#[.int .i64 m]:A_).size=(#[.int .i64 n]:A_).size:=rfl
def slLen:Value->Nat
|.slice _ n _=>n
|_=>0
theorem Lies.inC {w w0:World} {A X rs:Rws} {ss:List Sl} {v:Value} {k:IntKind} {l:I_} (h:Lies 1 X v l.length (vs k l)) (hm:Own w0 w (A++(X++rs)) ss):InC k w v l:=by
 obtain ⟨ad,c,rfl,hc⟩:=h.Pe;obtain ⟨ad2,c2,he,h2⟩:=h.gZ hm;cases he;exact ⟨_,_,rfl,hc,h2⟩
theorem Own.re4 {w0 w:World} {a b:Nat × A_} {T V X Y rs:Rws} {ss:List Sl} (h:Own w0 w (T++(V++(a::b::(X++(Y++rs))))) ss):Own w0 w (b::(X++(T++(V++rs)))) ss:=by
 have e:(a::b::(X++(T++(V++(Y++rs))))).Perm (T++(V++(a::b::(X++(Y++rs))))):=by
  have e1:=Fq (T++V) ([a,b]++X) (Y++rs);simpa only [s2,l_a] using e1
 exact (h.perm e).dropRow.sub (((List.Sublist.append (List.Sublist.refl X) (List.Sublist.append (List.Sublist.refl T) (List.Sublist.append (List.Sublist.refl V) (List.sublist_append_right Y rs))))).cons_cons b) (List.Sublist.refl _)
def RJ (w0:World) (l:I_) (n:Int) (rs:Rws) (ss:List Sl) (v:Value) (a:Act) (w:World):Prop:=∃ (x left:I_) (b f g5:Nat) (X Y:Rws) (vx vl u1 u4 u7 u8 u9 u10 u11 u12 u13 u14 u15 u16 u17 u18 u19 u20 u21 u22 u23 u24 u25 u26 u27 u28 u29 u30 u31 u32 u33 u34 u35 u36 u37 u38 u39 u40 u41 u42 u43 u44 u45 u46 u47 u48 u49 u50 u51 u52 u53 u54 u55 u56 u57 u58 u59 u60 u61 u62 u63 u64 u65 u66 u67 u68 u69 u70 u71 u72 u73 u74 u75:Value),a={ tmps:=(v::u1::vx::(.int .i64 b)::u4::(.pointer (some ⟨g5,0,none⟩))::vl::u7::u8::u9::u10::u11::u12::u13::u14::u15::u16::u17::u18::u19::u20::u21::u22::u23::u24::u25::u26::u27::u28::u29::u30::u31::u32::u33::u34::u35::u36::u37::u38::u39::u40::u41::u42::u43::u44::u45::u46::u47::u48::u49::u50::u51::u52::u53::u54::u55::u56::u57::u58::u59::u60::u61::u62::u63::u64::u65::u66::u67::u68::u69::u70::u71::u72::u73::u74::u75::[]).toArray,defers:=[] }/\Lies 1 X vx x.length (vs .u8 x)/\Lies 1 Y vl left.length (vs .u8 left)/\Bytes left/\b+left.length<=1000/\x.length+65536 * left.length<=65536000/\left.length < f/\Ij l=IW n f left x b/\Own w0 w ((g5,#[.int .i64 n])::(X++(Y++rs))) ss
theorem sH (v:Value) (l:I_) (w0 w:World) (rs:Rws) (ss:List Sl) (hm:Own w0 w rs ss) (hv:∀ W,Own w0 W rs ss->InC .u8 W v l) (hb:Bytes l) (hn:l.length<=1000):Calls prog 13 #[v] w (A1z w0 (Ij l) rs ss):=by
 have C45:Hid (∀ W,Own w0 W rs ss->Calls prog 45 #[v] W (yM w0 (A7e ⟨0,0,0⟩ l) rs ss)):=h_ fun W h=>nC v l w0 W rs ss h hv hb hn;obtain ⟨i22,hEM⟩:=nP;have HEM:=h_ hEM;clear hEM;have hok:=fun n R=>Va l ⟨0,0,0⟩ n R (.inl ⟨by decide,by decide,rfl,rfl⟩) hb;cases hH:A7e ⟨0,0,0⟩ l with
|error e =>
  rw [hH] at C45;have HRes:Hid (Ij l=([],0,e)):=h_ (by rw [Ij,hH]);clear hok hH hb hv;go_enter func13,ntmps13;go_wp2;refine wp_scope_jumps 0 (fun _ _=>False) (fun _ _=>0) rfl ?_ (fun _ _ h=>h.elim)
  go_wp2_with (first
   |(with_reducible first|(refine wa 80 hm qg ?_;clear hm;intro w g5 hm)|(refine ws 80 0 hm ?_;clear hm;intro w hm))
   |(go_at_call 45;have _t:=hm;refine (C45.out _ hm).mono ?_;clear _t hm;rintro x w1 ⟨he,rfl,hm⟩;have q1:(e != 0)=true:=bne_iff_ne.2 he;have HE0:=h_ he;clear he))
  simp only [Exit.jump];refine b_r (results_tmp3 rfl _ _ _) rfl ?_;rw [HRes.out];exact ⟨[],_,rfl,Lies.nil 1,hm.dropRow⟩
|ok o =>
  obtain ⟨n,R⟩:=o;obtain ⟨hn1,hn2,hRB,hRl⟩:=hok n R hH;rw [hH] at C45;have HN:Hid (1<=n/\n<=65536):=h_ ⟨hn1,hn2⟩;have HRB:=h_ hRB;have HRes0:Hid (Ij l=IW n (R.length+1) R [] 0):=h_ (by rw [Ij,hH]);have HRL:Hid (R.length<=1000):=h_ (by omega);clear hok hH hb hv hn1 hn2 hRB hRl;go_enter func13,ntmps13;go_wp2;refine Uw 0 (RJ w0 l n rs ss v) (fun a _=>slLen (a.tmps.getD 6 undef)) rfl ?_ ?_
  ·clear hm C45;rintro a w ⟨x,left,b,f,g5,X,Y,vx,vl,u1,u4,u7,u8,u9,u10,u11,u12,u13,u14,u15,u16,u17,u18,u19,u20,u21,u22,u23,u24,u25,u26,u27,u28,u29,u30,u31,u32,u33,u34,u35,u36,u37,u38,u39,u40,u41,u42,u43,u44,u45,u46,u47,u48,u49,u50,u51,u52,u53,u54,u55,u56,u57,u58,u59,u60,u61,u62,u63,u64,u65,u66,u67,u68,u69,u70,u71,u72,u73,u74,u75,rfl,hX,hY,hbl,hb1,hx1,hf,hR,hm⟩;obtain ⟨f,rfl⟩:∃ k,f=k+1:=⟨f - 1,by omega⟩;obtain ⟨adX,cX,rfl⟩:=hX.shape;obtain ⟨adY,cY,rfl⟩:=hY.shape;have HX:=h_ hX;have HY:=h_ hY;have HBL:=h_ hbl;have HXL:Hid (x.length<=65536000):=h_ (by omega);have C46:Hid (∀ W,Own w0 W ((g5,#[.int .i64 n])::(X++(Y++rs))) ss->Calls prog 46 #[.int .i64 n,.slice adY left.length cY] W (yN w0 (BO n .mark left) ((g5,#[.int .i64 n])::(X++(Y++rs))) ss)):=h_ fun W h=>VB _ n HN.out.1 HN.out.2 left w0 W _ ss h (fun W h=>HY.out.inC (A:=_::X) h) HBL.out (by omega)
   have HB1:=h_ hb1;have HX1:=h_ hx1;have HF:=h_ hf;have hok:=fun r R=>Ph HN.out.1 HN.out.2 left .mark r R trivial HBL.out;have hend:=fun r R=>RG (n:=n) left .mark r R;cases hM:BO n .mark left with
  |error e =>
    have HRes:Hid (Ij l=(x,b,e)):=h_ (hR.trans (bQ hM));rw [hM] at C46;clear hX hY hbl hb1 hx1 hf hR hok hend hM
    go_wp2_with (first
     |(with_reducible first|(refine wa 88 hm FM ?_;clear hm;intro w g7 hm)|(refine ws 88 0 hm ?_;clear hm;intro w hm)|(refine wl 3 0 hm ?_))
     |(go_at_call 46;have _t:=hm;refine (C46.out _ hm).mono ?_;clear _t hm;rintro x w1 ⟨he,rfl,hm⟩;have q1:(e != 0)=true:=bne_iff_ne.2 he;have HE0:=h_ he;clear he))
    exact xcf
  |ok o =>
    obtain ⟨r,R⟩:=o;obtain ⟨hok1,hok2,hok3⟩:=hok r R hM;rw [hM] at C46;rcases hend r R hM with ⟨m,p,s,rfl⟩|⟨s,rfl⟩
    ·have hm12:1<=m/\m<=65536:=by simp only [MR.ok] at hok1;have:=HN.out;omega
     have C47:Hid (∀ W {a:Nat × A_},Own w0 W (a::(g5,#[.int .i64 n])::(X++(Y++rs))) ss->Calls prog 47 #[.int .i64 n,.slice adY left.length cY] W (A1y w0 (Ik m p s R) (a::(g5,#[.int .i64 n])::(X++(Y++rs))) ss)):=h_ fun W a h=>aN _ n HN.out.1 HN.out.2 left m p s R hM w0 W _ ss h (fun W h=>HY.out.inC (A:=_::_::X) h) HBL.out (by omega);have hR2:=hR.trans (lM hM);have hfa:=fun t r2=>Ye (s:=s) (p:=p) (R:=R) (t:=t) (r2:=r2) hm12.1 hm12.2;have HMS:MR.st (.block m p s)=MS 4 0 0 m p s 4:=rfl;cases hB:Ik m p s R with
    |error e =>
      rw [hB] at hR2 C47;have HRes:Hid (Ij l=(x,b,e)):=h_ hR2;clear hX hY hbl hb1 hx1 hf hR hok hend hM hok1 hok2 hok3 hm12 hR2 hfa hB
      go_wp2_with (first
       |(with_reducible first|(refine wa 88 hm FM ?_;clear hm;intro w g7 hm)|(refine ws 88 0 hm ?_;clear hm;intro w hm))
       |(with_reducible (first|refine wl 3 0 hm ?_|refine wl 3 1 hm ?_))
       |(go_at_call 46;have _t:=hm;refine (C46.out _ hm).mono ?_;clear _t hm;rintro x w1 ⟨V0,v0,rfl,hV0,hm⟩;obtain ⟨ad0,c0,rfl⟩:=hV0.shape;clear hV0;replace hm:=hm.sub (List.sublist_append_right V0 _) (List.Sublist.refl _))
       |(go_at_call 47;have _t:=hm;refine (C47.out _ hm).mono ?_;clear _t hm;rintro x w1 ⟨he,rfl,hm⟩;have q1:(e != 0)=true:=bne_iff_ne.2 he;have HE0:=h_ he;clear he))
      exact xcf
    |ok o =>
      obtain ⟨t,r2⟩:=o;rw [hB] at hR2 C47;obtain ⟨ht,k,rfl⟩:=hfa t r2 hB;have HRes:Hid (Ij l=IW n f (R.drop k) (x++t) (b+1)):=h_ hR2;have HTL:Hid (t.length<=65536):=h_ (by omega);have HDB:Hid (Bytes (R.drop k)):=h_ (fun y hy=>hok2 y (List.mem_of_mem_drop hy));have hdl:(R.drop k).length+1<=left.length:=by rw [List.length_drop];omega
      have HDL:=h_ hdl;have hb2:b<=100000:=by omega
      clear hX hY hbl hb1 hx1 hf hR hok hend hM hok1 hok2 hok3 hm12 hR2 hfa hB hdl ht;generalize R.drop k=left2 at *
      go_wp2_with (first
       |(with_reducible first|(refine wa 88 hm FM ?_;clear hm;intro w g7 hm)|(refine ws 88 0 hm ?_;clear hm;intro w hm))
       |(with_reducible (first|refine wl 3 0 hm ?_|refine wl 3 1 hm ?_))
       |(go_at_call 46;have _t:=hm;refine (C46.out _ hm).mono ?_;clear _t hm;rintro x w1 ⟨V0,v0,rfl,hV0,hm⟩;obtain ⟨ad0,c0,rfl⟩:=hV0.shape;clear hV0;replace hm:=hm.sub (List.sublist_append_right V0 _) (List.Sublist.refl _))
       |(go_at_call 47;have _t:=hm;refine (C47.out _ hm).mono ?_;clear _t hm;rintro x w1 ⟨T,V,vt,vr,rfl,hT,hV,hm⟩;replace hm:=hm.re4;obtain ⟨adt,ct,rfl⟩:=hT.shape;obtain ⟨adr,cr,rfl⟩:=hV.shape;have HT:=h_ hT;have HV:=h_ hV;clear hT hV)
       |(refine Ad rfl (GR (A:=[_]) (X:=X) hm rfl HEM.out (Ac rfl) HX.out (Ac rfl) (fun W h=>HT.out.from (A:=(_::X)) h) (Ic _ _) (by have:=HXL.out;have:=HTL.out;omega) (by have:=HXL.out;have:=HTL.out;omega) (by omega) ?_);clear hm;intro X2 v3 w hX2 hm;simp only [s2] at hm;obtain ⟨ad3,c3,rfl⟩:=hX2.shape;have HX2:=h_ hX2;clear hX2))
      go_step3
      refine ⟨rfl,⟨x++t,left2,b+1,f,g5,X2,V,_,_,_,_,_,_,_,_,_,_,_,_,_,_,_,_,_,_,_,_,_,_,_,_,_,_,_,_,_,_,_,_,_,_,_,_,_,_,_,_,_,_,_,_,_,_,_,_,_,_,_,_,_,_,_,_,_,_,_,_,_,_,_,_,_,_,_,_,_,_,_,_,_,rfl,by rw [List.length_append,P7];exact HX2.out,HV.out,HDB.out,by have:=HB1.out;have:=HDL.out;omega,by rw [List.length_append];have:=HX1.out;have:=HDL.out;have:=HTL.out;omega,by have:=HF.out;have:=HDL.out;omega,HRes.out,hm.sub ((List.Sublist.append (List.Sublist.refl X2) (List.sublist_append_right T _)).cons_cons _) (List.Sublist.refl _)⟩,?_⟩;show left2.length < left.length;have:=HDL.out;omega
    ·have hR2:=hR.trans (bP hM);have HMS:MR.st (.tail s)=MS 6 0 0 0 0 s 4:=rfl
     have CF:Hid (∀ W (gq:Nat) {a b:Nat × A_},Own w0 W ((gq,#[.slice adX x.length cX])::a::b::(X++(Y++rs))) ss->Calls prog 48 #[.slice (some ⟨gq,0,none⟩) 1 1] W fun e w'=>(e=.returned (.int .u32 (crc 0 [x])))/\Below W.heap.size W w'):=h_ fun W gq a b h=>jM _ [x] W (InS.onu h (HX.out.ny (A:=[(gq,#[.slice adX x.length cX]),a,b]) h)) (by
      intro p hp;obtain rfl:p=x:=by simpa using hp
      have:=HXL.out
      omega) (by simp)
     have HR2:=h_ hR2;obtain ⟨i34,hE34⟩:=wO;have HE34:=h_ hE34;clear hE34 hX hY hbl hb1 hx1 hf hR hok hend hM hok1 hok2 hok3 hR2;generalize crc 0 [x]=c at *
     go_upto_region 12 with (first
      |(with_reducible first|(refine wa 88 hm FM ?_;clear hm;intro w g7 hm)|(refine ws 88 0 hm ?_;clear hm;intro w hm)|(refine wl 3 0 hm ?_))
      |(go_at_call 46;have _t:=hm;refine (C46.out _ hm).mono ?_;clear _t hm;rintro x w1 ⟨V0,v0,rfl,hV0,hm⟩;obtain ⟨ad0,c0,rfl⟩:=hV0.shape;clear hV0;replace hm:=hm.sub (List.sublist_append_right V0 _) (List.Sublist.refl _)))
     refine rO hm 8 (.rds [(0,false),(1,false),(2,true),(3,false)] (.one 4 (.one 5 (.rds [(6,false),(7,false)] .done)))) ?_;clear hm;intro w hm;simp only [KT.rds]
     iterate 2 refine kq ?_
     refine km (fun W hm=>ld 0 hm rfl rfl rfl (ot rfl) rfl) ?_;refine kq ?_
     (refine Bo rfl rfl (JQ hm rfl HE34.out (Ac rfl) rfl ?_))
     clear hm;intro w gq hm;refine ⟨fun W=>Own _ W _ _,fun _ h=>h,hm.dropRow,?_⟩
     try simp only [Act.put,s3]
     refine DJ rfl rfl (fun K hK=>?_);go_simp;refine (CF.out _ _ hm).mono ?_;rintro e w1 ⟨rfl,hb⟩;replace hm:=hm.call hb;clear hb;refine hK _ _ ⟨fun W=>Own _ W _ _,fun _ h=>h,hm.dropRow,?_⟩;clear hK K
     iterate 2 refine kq ?_
     refine Ba ?_;go_simp;by_cases hc:s=c
     ·subst hc;have HR3:=h_ (HR2.out.trans (if_pos rfl));clear HR2;by_cases hr:R.length=0
      ·have HRes:Hid (Ij l=(x,b,0)):=h_ (HR3.out.trans (if_neg (by omega)));obtain rfl:R=[]:=List.eq_nil_of_length_eq_zero hr;clear HR3 hr;exact xbm
      ·have HRes:Hid (Ij l=(x,b,261)):=h_ (HR3.out.trans (if_pos (by omega)));have q3:(0:Int) < (R.length:Int):=by omega
       clear HR3 hr;exact xbm
     ·have HRes:Hid (Ij l=(x,b,260)):=h_ (HR2.out.trans (if_neg hc));have q2:(s != c)=true:=by simpa using hc
      have q3:decide (s=c)=false:=by simpa using hc
      have q4:(s == c)=false:=by simpa using hc
      clear HR2 hc;exact xbm
  ·intro PS
   go_wp2_with (first
    |(with_reducible first|(refine wa 80 hm qg ?_;clear hm;intro w g5 hm)|(refine ws 80 0 hm ?_;clear hm;intro w hm))
    |(go_at_call 45;have _t:=hm;refine (C45.out _ hm).mono ?_;clear _t hm;rintro x w1 ⟨X0,v0,rfl,hX0,hm⟩;obtain ⟨ad0,c0,rfl⟩:=hX0.shape;have HX0:=h_ hX0;clear hX0))
   go_step3
   refine (‹∀ (a:Act) (w:World),Code.wp _ _ _ a w->_›) _ _ (PS _ _ ⟨[],R,0,R.length+1,g5,[],X0,_,_,_,_,_,_,_,_,_,_,_,_,_,_,_,_,_,_,_,_,_,_,_,_,_,_,_,_,_,_,_,_,_,_,_,_,_,_,_,_,_,_,_,_,_,_,_,_,_,_,_,_,_,_,_,_,_,_,_,_,_,_,_,_,_,_,_,_,_,_,_,_,_,rfl,Lies.nil 1,HX0.out,HRB.out,by have:=HRL.out;omega,by have:=HRL.out;simp;omega,by omega,HRes0.out,hm⟩)
end Go.Proofs.YtkpbhdhkdonghaaGreat
