/-
  Part 30 of the proof.
-/
import Derived.Maps.Keyed
set_option linter.all false
namespace Go.Proofs.YtkpbhdhkdonghaaGreat
open Go
noncomputable section
abbrev OV:=Option Value
inductive Pa where
|e
|a (p:Pa)
|b (p:Pa)
 deriving DecidableEq
def pa:Nat->Nat->Pa
|0,_=>.e
|f+1,n=>cond (Nat.beq n 0) .e (cond (Nat.beq (Nat.mod n 2) 1) (.a (pa f (Nat.div n 2))) (.b (pa f (Nat.sub (Nat.div n 2) 1))))
inductive Tr (α:Type) where
|nil
|node (v:Option α) (l r:Tr α)
def Tr.at {α:Type} (p:Pa):Tr α->Option α :=
 Pa.rec (motive:=fun _=>Tr α->Option α) (fun t=>Tr.rec (motive:=fun _=>Option α) none (fun v _ _ _ _=>v) t)
  (fun _ ih t=>Tr.rec (motive:=fun _=>Option α) none (fun _ l _ _ _=>ih l) t)
  (fun _ ih t=>Tr.rec (motive:=fun _=>Option α) none (fun _ _ r _ _=>ih r) t) p
def Tr.get {α:Type} (t:Tr α) (n:Nat):Option α:=Tr.at (pa 24 n) t
def Tr.lay {α:Type} (x:Option α) (p:Pa):Tr α->Tr α :=
 Pa.rec (motive:=fun _=>Tr α->Tr α) (fun t=>Tr.rec (motive:=fun _=>Tr α) (.node x .nil .nil) (fun _ l r _ _=>.node x l r) t)
  (fun _ ih t=>Tr.rec (motive:=fun _=>Tr α) (.node none (ih .nil) .nil) (fun v l r _ _=>.node v (ih l) r) t)
  (fun _ ih t=>Tr.rec (motive:=fun _=>Tr α) (.node none .nil (ih .nil)) (fun v l r _ _=>.node v l (ih r)) t) p
def Tr.put {α:Type} (t:Tr α) (n:Nat) (x:Option α):Tr α:=Tr.lay x (pa 24 n) t
def J7 {β:Type} (n:Nat) (k:Nat->β):β:=Nat.rec (k 0) (fun m _=>k m) (Nat.add n 1)
def fint {β:Type} (z:Int) (k:Int->β):β:=match z with
|.ofNat n=>J7 n fun n=>k (.ofNat n)
|.negSucc n=>J7 n fun n=>k (.negSucc n)
def A2s (v:Value):OV:=match v with
|.int q z=>fint z fun z=>some (.int q z)
|v=>some v
def Qk {α:Type} (vs:List α):List α->Option (List α) :=
 List.rec (motive:=fun _=>List α->Option (List α)) (fun cs=>some cs)
  (fun v _ ih cs=>List.rec (motive:=fun _=>Option (List α)) none (fun _ cs _=>Option.rec (motive:=fun _=>Option (List α)) none (fun m=>some (v::m)) (ih cs)) cs) vs
def KJ {α:Type} (cs:List α) (off:Nat) (vs:List α):Option (List α) :=
 Nat.rec (motive:=fun _=>List α->Option (List α)) (fun cs=>Qk vs cs)
  (fun _ ih cs=>List.rec (motive:=fun _=>Option (List α)) none (fun c cs _=>Option.rec (motive:=fun _=>Option (List α)) none (fun m=>some (c::m)) (ih cs)) cs) off cs
def ltk {α:Type} (n:Nat):List α->Option (List α) :=
 Nat.rec (motive:=fun _=>List α->Option (List α)) (fun _=>some [])
  (fun _ ih cs=>List.rec (motive:=fun _=>Option (List α)) none (fun c cs _=>Option.rec (motive:=fun _=>Option (List α)) none (fun m=>some (c::m)) (ih cs)) cs) n
def QE {α:Type} (cs:List α) (off n:Nat):Option (List α) :=
 Nat.rec (motive:=fun _=>List α->Option (List α)) (fun cs=>ltk n cs)
  (fun _ ih cs=>List.rec (motive:=fun _=>Option (List α)) none (fun _ cs _=>ih cs) cs) off cs
def lat {α:Type} (cs:List α) (n:Nat):Option α :=
 Nat.rec (motive:=fun _=>List α->Option α) (fun cs=>List.rec (motive:=fun _=>Option α) none (fun c _ _=>some c) cs)
  (fun _ ih cs=>List.rec (motive:=fun _=>Option α) none (fun _ cs _=>ih cs) cs) n cs
def Vu {α:Type} (n:Nat) (l:List α):Bool :=
 Nat.rec (motive:=fun _=>List α->Bool) (fun l=>List.rec (motive:=fun _=>Bool) true (fun _ _ _=>false) l) (fun _ ih l=>List.rec (motive:=fun _=>Bool) false (fun _ t _=>ih t) l) n l
def rP {α:Type} (a b:List α):Bool :=
 List.rec (motive:=fun _=>List α->Bool) (fun l=>List.rec (motive:=fun _=>Bool) true (fun _ _ _=>false) l) (fun _ _ ih l=>List.rec (motive:=fun _=>Bool) false (fun _ t _=>ih t) l) a b
def uZ {α:Type} (cs:List α) (off n:Nat):Option (List α):=cond (Nat.beq off 0) (cond (Vu n cs) (some cs) (QE cs off n)) (QE cs off n)
def ji {α:Type} (cs:List α) (off:Nat) (vs:List α):Option (List α):=cond (Nat.beq off 0) (cond (rP cs vs) (some vs) (KJ cs off vs)) (KJ cs off vs)
def BK (z:List Value):Nat->List Value
|0=>[]
|n+1=>z++BK z n
inductive AO where
|row (cs:List Value) (es:Nat)
|ro (cs:List Value)
|mp (es:List (Value × Value))
|mark
def app {α:Type} (a b:List α):List α:=List.rec (motive:=fun _=>List α) b (fun x _ ih=>x::ih) a
structure AH where
 t:Tr AO
 n:Nat
def fP {α:Type} (P:Program):Sem α->Option α
|.pure a=>some a
|.program k=>fP P (k P)
|_=>none
def AH.row (h:AH) (k:Nat):Option (List Value):=match h.t.get k with|some (.row cs _)=>some cs|some (.ro cs)=>some cs|_=>none
def AH.new (h:AH) (o:AO):Option (Nat × AH):=J7 h.n fun k=>cond (Nat.ble k 16000000) (some (k,⟨h.t.put k (some o),Nat.add k 1⟩)) none
def AH.lay (h:AH) (k off:Nat) (vs:List Value):Option AH :=
 match h.t.get k with
|some (.row cs es)=>match ji cs off vs with
 |some cs'=>some ⟨h.t.put k (some (.row cs' es)),h.n⟩
 |none=>none
|_=>none
def BM:Value->Bool
|.bool _|.int _ _|.string _|.pointer none|.map none|.nilFunc|.nilIface=>true
|.slice none 0 0=>true
|_=>false
def cell1:Value->Bool
|.agg _|.tuple _=>false
|_=>true
def VQ (v:Value):Bool :=
 Value.rec (motive_1:=fun _=>Bool) (motive_2:=fun _=>Bool) (motive_3:=fun _=>Bool) (fun _=>true) (fun _ _=>true) (fun _ _=>true) (fun _ _ _=>true) (fun _=>true) (fun _=>true) (fun _ _ _=>true) (fun _=>true) (fun _=>true) (fun _ _ _ _ _=>true) true (fun _ _ _=>true) true (fun _ _=>false) (fun _ _=>false) (fun _ _=>true) true (fun _ _ _ _=>true) v
def xQ (l:List Value):Bool:=List.rec (motive:=fun _=>Bool) true (fun v _ ih=>cond (VQ v) ih false) l
def QM (n:Nat) (l:List Value):Bool :=
 Nat.rec (motive:=fun _=>List Value->Bool) (fun l=>List.rec (motive:=fun _=>Bool) true (fun _ _ _=>false) l) (fun _ ih l=>List.rec (motive:=fun _=>Bool) false (fun v t _=>cond (VQ v) (ih t) false) l) n l
inductive Uu where
|val (v:Value)
|eff (v:Value) (h:AH)
|call (f:FuncId) (args:List Value)
abbrev R:=Option Uu
def rv (v:OV):R:=Option.rec (motive:=fun _=>R) none (fun v=>some (.val v)) v
def re (v:Value) (h:Option AH):R:=match h with|some h=>some (.eff v h)|none=>none
def XE (P:Program) (t:TypeId):Option Bool :=
 match P.underlying t with
|some (.struct _)=>some true
|some (.array _ _)=>some true
|some _=>some false
|none=>none
def sizeT (P:Program) (t:TypeId):Option Nat:=match P.info? t with|some i=>some i.size|none=>none
def G8 (P:Program) (t:TypeId):Option (List Value):=match P.info? t with
|some i=>match i.zero with|some z=>cond (z.cells.toList.all BM && Nat.beq z.cells.size i.size) (some z.cells.toList) none|none=>none
|none=>none
def LJ (P:Program) (e:TypeId):Bool:=match P.info? e with|some i=>Nat.ble i.bytes 10000 && Nat.ble 1 i.size|none=>false
def WX (P:Program) (t:TypeId):Option (List (Nat × Nat)):=match P.underlying t with
|some (.struct fs)=>fs.toList.mapM (fun f=>(P.info? f.type).map fun i=>(f.offset,i.size))
|_=>none
def MP (P:Program) (t:TypeId):Option (TypeId × Nat):=match P.underlying t with
|some (.slice e)=>match sizeT P e with|some n=>some (e,n)|none=>none
|_=>none
def TJ (P:Program) (t:TypeId):Option (Nat × TypeId × Nat):=match P.underlying t with
|some (.array n e)=>match sizeT P e with|some s=>some (n,e,s)|none=>none
|_=>none
def Oc (P:Program) (s:TypeId) (f:Nat):Option (Nat × TypeId × Nat) :=
 match P.underlying s with
|some (.struct fs)=>match fs[f]? with
 |some x=>match sizeT P x.type with|some n=>some (x.offset,x.type,n)|none=>none
 |none=>none
|_=>none
def enters (P:Program) (f:FuncId):Bool:=match P.funcs[f]? with|some fn=>fn.body.isSome && !(fn.name == "runtime.NumGoroutine")|none=>false
def Py (P:Program) (t:TypeId):Bool:=match P.underlying t with|some .string=>true|_=>false
def apart (P:Program) (t:TypeId) (cs:List Value) (off:Nat):OV :=
 match XE P t with
|some true=>match sizeT P t with
 |some n=>match uZ cs off n with|some vs=>some (.agg vs.toArray)|none=>none
 |none=>none
|some false=>lat cs off
|none=>none
def ZR (P:Program) (t:TypeId) (x:OV) (h:AH):OV :=
 match x with
|some (.pointer (some ⟨k,off,none⟩))=>match h.row k with|some cs=>apart P t cs off|none=>none
|_=>none
def fO (P:Program) (t:TypeId) (x v:OV) (h:AH):Option AH :=
 match x,v with
|some (.pointer (some ⟨k,off,none⟩)),some (.agg vs)=>match sizeT P t with
 |some n=>cond (QM n vs.toList) (h.lay k off vs.toList) none
 |none=>none
|some (.pointer (some ⟨k,off,none⟩)),some v=>match sizeT P t with
 |some n=>cond (Nat.beq 1 n) (cond (VQ v) (h.lay k off [v]) none) none
 |none=>none
|_,_=>none
def NOM:Nat:=4611686018427387904
def HALF:Nat:=2305843009213693952
def fZ (x:Option OV) (d c:Nat):Option Nat :=
 match x with
|none=>cond (Nat.ble d c) (some d) none
|some (some (.int _ (.ofNat m)))=>cond (Nat.ble m c) (some m) none
|_=>none
def xX (size:Nat) (a:Option Addr) (l h m:Nat):OV :=
 match a with
|none=>some (.slice none (Nat.sub h l) (Nat.sub m l))
|some ⟨k,off,none⟩=>J7 (cond (Nat.beq m l) off (Nat.add off (Nat.mul l size))) fun o=>J7 (Nat.sub h l) fun n=>J7 (Nat.sub m l) fun c=>some (.slice (some ⟨k,o,none⟩) n c)
|_=>none
def aslice (size:Nat) (a:Option Addr) (len cap:Nat) (lo hi mx:Option OV):OV :=
 match mx with
|none=>match fZ hi len (cond (Nat.ble HALF cap) len cap) with
 |some h=>match fZ lo 0 h with
  |some l=>cond (cond (Nat.ble HALF cap) (Nat.ble (Nat.add HALF l) cap) true) (xX size a l h cap) none
  |none=>none
 |none=>none
|some _=>match fZ mx 0 (cond (Nat.ble HALF cap) len cap) with
 |some m=>match hi with
  |none=>none
  |some _=>match fZ hi 0 m with
   |some h=>match fZ lo 0 h with
    |some l=>cond (Nat.blt m HALF) (xX size a l h m) none
    |none=>none
   |none=>none
 |none=>none
def JW (size n:Nat) (h:AH):Value->Option (List Value)
|.slice none _ _=>cond (Nat.beq n 0) (some []) none
|.slice (some ⟨k,off,none⟩) _ _=>match h.row k with|some cs=>QE cs off (Nat.mul n size)|none=>none
|_=>none
def jX (P:Program) (e:TypeId) (size:Nat) (zs:Bool) (x:Value) (h:AH):Option (Nat × List Value) :=
 match zs,x with
|true,.int _ (.ofNat n)=>match G8 P e with|some z=>some (n,BK z n)|none=>none
|false,.slice a n c=>match JW size n h (.slice a n c) with|some vs=>some (n,vs)|none=>none
|_,_=>none
def MZ (h:AH) (size len:Nat) (vs:List Value):Option (Value × AH) :=
 match h.new (.row vs size) with
|some (k,h')=>J7 len fun len=>some (.slice (some ⟨k,0,none⟩) len NOM,h')
|none=>none
def ZV (size:Nat) (a:Option Addr) (len cap n:Nat) (vs:List Value) (h:AH):Option (Value × AH) :=
 match a with
|none=>MZ h size n vs
|some ⟨k,off,none⟩=>match h.t.get k with
 |some (.row cs es)=>match QE cs off (Nat.mul len size) with
  |some old=>cond (Nat.beq es 0 || not (Nat.ble HALF cap))
     (cond (Nat.ble (Nat.add len n) cap) none (MZ h size (Nat.add len n) (old++vs)))
     (cond (Nat.beq es size && (Nat.ble HALF cap && Nat.beq (Nat.add off (Nat.mul cap size)) (Nat.mul NOM size))) (MZ ⟨h.t.put k none,h.n⟩ size (Nat.add len n) (old++vs)) none)
  |none=>none
 |some (.ro cs)=>match QE cs off (Nat.mul len size) with
  |some old=>cond (Nat.ble (Nat.add len n) cap) none (MZ h size (Nat.add len n) (old++vs))
  |none=>none
 |_=>none
|_=>none
def QX (P:Program) (ts:TypeId) (zs:Bool) (s x:Value) (h:AH):Option (Value × AH) :=
 match MP P ts,s with
|some (e,size),.slice a len cap=>match jX P e size zs x h with
 |some (n,vs)=>cond (Nat.beq n 0) (some (.slice a len cap,h)) (cond (xQ vs && Nat.ble (Nat.add len n) 1000000 && LJ P e) (cond (zs && a.isSome || not (G8 P e).isSome) none (ZV size a len cap n vs h)) none)
 |none=>none
|_,_=>none
def Fe:IntKind->Nat
|.i8=>0|.i16=>1|.i32=>2|.i64=>3|.u8=>4|.u16=>5|.u32=>6|.u64=>7
def Td:List Nat:=[3,5,134,207,241]
def flatK (v:Value):Bool:=match v with|.int _ _=>true|.agg cs=>cs.toList.all BM|_=>false
def YR:IntKind->Nat
|.i8=>127|.i16=>32767|.i32=>2147483647|.i64=>9223372036854775807
|.u8=>255|.u16=>65535|.u32=>4294967295|.u64=>18446744073709551615
def isI (k:IntKind) (v:Value):Bool:=match v with|.int j (.ofNat m)=>cond (Nat.beq (Fe j) (Fe k)) (Nat.ble m (YR k)) false|.int j (.negSucc m)=>cond (Nat.beq (Fe j) (Fe k)) (cond (Nat.ble (Fe k) 3) (Nat.ble m (YR k)) false) false|_=>false
def UH (k:IntKind) (n:Nat) (v:Value):Bool:=match v with
|.agg cs=>(match n,cs.toList with
 |1,[x]=>isI k x
 |2,[x,y]=>cond (isI k x) (isI k y) false
 |_,_=>false)
|_=>false
def KN (kt:Nat) (v:Value):Bool:=cond (Nat.beq kt 134) (UH .i64 1 v) (cond (Nat.beq kt 207) (UH .u8 2 v) (cond (Nat.beq kt 5) (isI .u8 v) (cond (Nat.beq kt 3) (isI .i64 v) (cond (Nat.beq kt 241) (UH .i64 2 v) false))))
def jv (a b:Value):Bool:=match a,b with|.int _ x,.int _ y=>!decide (x=y)|_,_=>false
def Xh:List Value->List Value->Bool
|a::l,b::m=>jv a b || Xh l m
|_,_=>false
def MF (a b:Value):Bool:=match a,b with
|.agg x,.agg y=>Xh x.toList y.toList
|a,b=>jv a b
def jw (a b:Value):Bool:=match a,b with|.int k x,.int l y=>Nat.beq (Fe k) (Fe l) && decide (x=y)|_,_=>false
def Xi:List Value->List Value->Bool
|[],[]=>true
|a::l,b::m=>jw a b && Xi l m
|_,_=>false
def jo (a b:Value):Bool:=match a,b with
|.agg x,.agg y=>Xi x.toList y.toList
|a,b=>jw a b
def iZ (k:Value):List (Value × Value)->OV
|[]=>none
|p::l=>cond (jo k p.1) (some p.2) (iZ k l)
def Vq (P:Program) (t:TypeId):Option (TypeId × TypeId):=match P.underlying t with
|some (.map k v)=>cond (Td.contains k) (some (k,v)) none
|_=>none
abbrev Tm:=Tr Value
def SB:Nat:=1500000
def oget (v:OV):Value:=Option.rec (motive:=fun _=>Value) undef (fun v=>v) v
def Cc (t:Tm) (i:Nat):Value:=oget (t.get i)
inductive CV where
|t (p:Pa)
|k (v:OV)
def cv (x:Operand):CV:=match x with
|.tmp i=>cond (Nat.ble i 1000000) (.t (pa 24 i)) (.k none)
|.const v=>.k (cond (BM v) (some v) none)
|.global _=>.k none
|.func f=>.k (some (.func (.func f) #[] #[]))
def aev (t:Tm) (x:Operand):OV:=CV.rec (motive:=fun _=>OV) (fun p=>some (oget (Tr.at p t))) (fun v=>v) (cv x)
abbrev Ev:=Operand->OV
def parts (ev:Ev):List (Nat × Operand)->Option (List (Nat × Value))
|[]=>some []
|(i,x)::l=>match ev x,parts ev l with|some v,some m=>some ((i,v)::m)|_,_=>none
def evs (ev:Ev):List Operand->Option (List Value)
|[]=>some []
|x::l=>match ev x,evs ev l with|some v,some m=>some (v::m)|_,_=>none
def A2t (ev:Ev) (l:List Operand):Option (List Value) :=
 List.rec (motive:=fun _=>Option (List Value)) (some []) (fun x _ ih=>Option.rec (motive:=fun _=>Option (List Value)) none (fun v=>Option.rec (motive:=fun _=>Option (List Value)) none (fun m=>some (v::m)) ih) (ev x)) l
def Ue (place:Nat->Option (Nat × Nat)):List (Nat × Value)->List Value->Option (List Value)
|[],cs=>some cs
|(i,v)::l,cs=>match place i with
 |some (off,size)=>cond (Nat.beq v.cells.size size) (match KJ cs off v.cells.toList with|some cs'=>Ue place l cs'|none=>none) none
 |none=>none
def sQ (pl:List (Nat × Nat)) (j:Nat):Option (Nat × Nat):=lat pl j
def bT (n j:Nat):Option (Nat × Nat):=some (Nat.mul j n,n)
def uf (k:IntKind) (n:Nat):OV:=J7 n fun n=>cond (Nat.ble n (YR k)) (some (.int k (.ofNat n))) none
def tX (op:BinOp) (k:IntKind) (a b:Nat):OV :=
 match op with
|.add=>uf k (Nat.add a b)
|.sub=>cond (Nat.ble b a) (uf k (Nat.sub a b)) none
|.mul=>uf k (Nat.mul a b)
|.eql=>some (.bool (Nat.beq a b))
|.neq=>some (.bool (not (Nat.beq a b)))
|.lss=>some (.bool (Nat.blt a b))
|.leq=>some (.bool (Nat.ble a b))
|.gtr=>some (.bool (Nat.blt b a))
|.geq=>some (.bool (Nat.ble b a))
|_=>none
def Vb (P:Program) (x:Sem Value):OV:=match fP P x with|some v=>cond (BM v) (A2s v) none|none=>none
def Jg (P:Program) (op:BinOp) (t:TypeId) (k l:IntKind) (a b:Int):OV:=Vb P (binOp op t (.int k a) (.int l b))
def oOr (x y:OV):OV:=match x with|some v=>some v|none=>y
def tZ (P:Program) (op:BinOp) (t:TypeId) (k l:IntKind) (a b:Int):OV :=
 match a with
|.ofNat m=>(match b with
 |.ofNat n=>cond (Nat.beq (Fe k) (Fe l)) (oOr (tX op k m n) (Jg P op t k l (.ofNat m) (.ofNat n))) (Jg P op t k l (.ofNat m) (.ofNat n))
 |b=>Jg P op t k l (.ofNat m) b)
|a=>Jg P op t k l a b
def Xg (P:Program) (t:TypeId):Bool:=match P.underlying t with|some .bool=>true|_=>false
def uj (P:Program) (op:BinOp) (t:TypeId) (a b:Bool):OV:=cond (Xg P t) (match op with|.eql=>some (.bool (a == b))|.neq=>some (.bool (!(a == b)))|_=>none) none
def um (P:Program) (t:TypeId) (kc:Bool) (u v:Value):Option Bool :=
 match P.underlying t with
|some (.pointer _)=>match u,v with
 |.pointer none,.pointer none=>some true
 |.pointer none,.pointer (some _)=>some false
 |.pointer (some _),.pointer none=>some false
 |_,_=>none
|some (.slice _)=>match u,v with
 |.slice none _ _,.slice none _ _=>some true
 |.slice none _ _,.slice (some _) _ _=>some false
 |.slice (some _) _ _,.slice none _ _=>some false
 |_,_=>none
|some (.interface _)=>match u,v with
 |.nilIface,.nilIface=>cond kc (some true) none
 |.nilIface,.iface _ _=>some false
 |.iface _ _,.nilIface=>some false
 |_,_=>none
|some (.func _ _ _)=>match u,v with
 |.nilFunc,.nilFunc=>some true
 |.nilFunc,.func _ _ _=>some false
 |.func _ _ _,.nilFunc=>some false
 |_,_=>none
|_=>none
def A1j (P:Program) (op:BinOp) (t:TypeId) (kc:Bool) (u v:Value):OV:=match um P t kc u v with
|some b=>(match op with
 |.eql=>some (.bool b)
 |.neq=>some (.bool (!b))
 |_=>none)
|none=>none
def A1m (P:Program) (op:BinOp) (t:TypeId) (k:IntKind) (a:Int) (v:Value):OV:=match v with
|.int l b=>tZ P op t k l a b
|_=>none
def A1n (P:Program) (op:BinOp) (t:TypeId) (a:Bool) (v:Value):OV:=match v with
|.bool b=>uj P op t a b
|_=>none
def oD:List UInt8->List UInt8->Bool
|[],[]=>true
|a::l,b::m=>Nat.beq a.toNat b.toNat && oD l m
|_,_=>false
def A1l (op:BinOp) (a:ByteArray) (v:Value):OV:=match v with
|.string b=>match op with
 |.eql=>some (.bool (oD a.data.toList b.data.toList))
 |.neq=>some (.bool (!oD a.data.toList b.data.toList))
 |_=>none
|_=>none
def cmpInt (a b:Value):Option Bool:=match a,b with
|.int k x,.int l y=>cond (Nat.beq (Fe k) (Fe l)) (some (decide (x=y))) none
|_,_=>none
def xg (x:Option Bool) (y:Option Bool):Option Bool:=Option.rec (motive:=fun _=>Option Bool) none (fun b=>cond b y (some false)) x
def Ou (l:List Value):List Value->Option Bool :=
 List.rec (motive:=fun _=>List Value->Option Bool) (fun m=>List.rec (motive:=fun _=>Option Bool) (some true) (fun _ _ _=>none) m)
  (fun a _ ih m=>List.rec (motive:=fun _=>Option Bool) none (fun b m _=>xg (cmpInt a b) (ih m)) m) l
abbrev Cmp:=TypeId->Value->Value->Option Bool
def A0B (C:Cmp) (t:TypeId) (x y:OV):Option Bool:=match x,y with
|some a,some b=>C t a b
|_,_=>none
def Ot (P:Program) (C:Cmp) (e:TypeId) (s:Nat) (cs ds:List Value):Nat->Nat->Option Bool
|0,_=>some true
|n+1,i=>xg (A0B C e (apart P e cs (Nat.mul i s)) (apart P e ds (Nat.mul i s))) (Ot P C e s cs ds n (Nat.add i 1))
def LH (P:Program) (C:Cmp) (cs ds:List Value):List Field->Option Bool
|[]=>some true
|f::fs=>cond (f.name == "_") none (xg (A0B C f.type (apart P f.type cs f.offset) (apart P f.type ds f.offset)) (LH P C cs ds fs))
def Xf (P:Program) (t:TypeId):Bool:=match P.underlying t with|some (.int _)=>true|_=>false
def xk (P:Program) (C:Cmp) (n:Nat) (e:TypeId) (cs ds:List Value):Option Bool:=match sizeT P e with
|some s=>cond (Xf P e && Nat.beq s 1) (cond (Nat.beq cs.length n) (Ou cs ds) none) (Ot P C e s cs ds n 0)
|none=>none
def wZ (P:Program):Nat->Cmp
|0,_,_,_=>none
|d+1,t,u,v=>match P.underlying t with
 |some .bool=>match u,v with|.bool a,.bool b=>some (a == b)|_,_=>none
 |some (.int _)=>cmpInt u v
 |some (.array n e)=>match u,v with|.agg cs,.agg ds=>xk P (wZ P d) n e cs.toList ds.toList|_,_=>none
 |some (.struct fs)=>match u,v with|.agg cs,.agg ds=>cond (P.stoodInHeld t) none (LH P (wZ P d) cs.toList ds.toList fs.toList)|_,_=>none
 |_=>none
def A1o (P:Program) (op:BinOp) (t:TypeId) (cs:Array Value) (v:Value):OV:=match v with
|.agg ds=>cond (P.eqGuardType P.depth t) none (match wZ P 6 t (.agg cs) (.agg ds) with
 |some b=>(match op with
  |.eql=>some (.bool b)
  |.neq=>some (.bool (!b))
  |_=>none)
 |none=>none)
|_=>none
def A1k (P:Program) (op:BinOp) (t:TypeId) (kc:Bool) (u v:Value):OV:=match u with
|.int k a=>A1m P op t k a v
|.bool a=>A1n P op t a v
|.string a=>A1l op a v
|.agg cs=>A1o P op t cs v
|u=>A1j P op t kc u v
def isK (x:Operand):Bool:=match x with|.const _=>true|_=>false
def A2b (P:Program) (op:BinOp) (t:TypeId) (kc:Bool) (x y:OV):OV :=
 match x with
|some u=>(match y with|some v=>A1k P op t kc u v|none=>none)
|none=>none
def oUn (P:Program) (op:UnOp) (x:OV):OV :=
 match x with
|some (.int k a)=>Vb P (Op.unary op (.int k a))
|some (.bool b)=>match op with|.not=>some (.bool (!b))|_=>none
|_=>none
def jq (P:Program) (t:TypeId):Bool:=match MP P t with
|some (e,1)=>match P.underlying e with|some (.int .u8)=>true|_=>false
|_=>false
def bytesOf:List Value->Option (List UInt8)
|[]=>some []
|.int .u8 (.ofNat n)::l=>match bytesOf l with|some m=>some (UInt8.ofNat n::m)|none=>none
|_::_=>none
def Vm (P:Program) (s d:TypeId) (a:Option Addr) (n c:Nat) (h:AH):R :=
 cond (jq P s) (cond (Nat.beq s d) (match a with
 |some ⟨k,off,none⟩=>match h.row k with|some cs=>some (.eff (.slice (some ⟨k,off,none⟩) n c) ⟨h.t.put k (some (.ro cs)),h.n⟩)|none=>none
 |_=>none) (cond (Py P d) (match JW 1 n h (.slice a n c) with
  |some vs=>match bytesOf vs with|some bs=>some (.val (.string ⟨bs.toArray⟩))|none=>none
  |none=>none) none)) none
def Sj (P:Program) (s d:TypeId) (x:OV) (h:AH):R:=match x with
|some (.int k a)=>rv (Vb P (convert s d (.int k a)))
|some (.slice a n c)=>Vm P s d a n c h
|_=>none
def tN (c a b:OV):OV:=match c with|some (.bool true)=>a|some (.bool false)=>b|_=>none
def A27 (x:OV):OV:=match x with
|some (.pointer (some a))=>some (.pointer (some a))
|some (.func (.func f) a b)=>some (.func (.func f) a b)
|some (.iface t v)=>some (.iface t v)
|some (.slice a b c)=>some (.slice a b c)
|_=>none
def tV (h:AH) (cs:List Value):R:=match h.new (.row cs 0) with|some (k,h')=>some (.eff (.pointer (some ⟨k,0,none⟩)) h')|none=>none
def Sm (P:Program) (t:TypeId) (h:AH):R:=match G8 P t with|some z=>tV h z|none=>none
def A2a (x:OV) (h:AH):R:=match x with|some v=>tV h v.cells.toList|none=>none
def dG (P:Program) (ev:Ev) (t:TypeId) (ps:List (Nat × Operand)):OV:=match parts ev ps,G8 P t with
|some l,some z=>match (match TJ P t with|some (_,_,s)=>Ue (bT s) l z|none=>(match WX P t with|some pl=>Ue (sQ pl) l z|none=>none)) with
 |some cs=>some (.agg cs.toArray)
 |none=>none
|_,_=>none
def RZ (h:AH) (cs:List Value) (n m:Nat):R:=match h.new (.row cs 0) with|some (k,h')=>some (.eff (.slice (some ⟨k,0,none⟩) n m) h')|none=>none
def X6 (P:Program) (ev:Ev) (t:TypeId) (len:Nat) (ps:List (Nat × Operand)) (h:AH):R:=match parts ev ps,MP P t with
|some l,some (e,s)=>match G8 P e with
 |some z=>match Ue (bT s) l (BK z len) with
  |some cs=>cond (Nat.ble (Nat.mul len s) 16000000 && not (Nat.beq (Nat.mul len s) 0)) (RZ h cs len len) (match len,l with
    |0,[]=>RZ h [] 0 0
    |_,_=>none)
  |none=>none
 |none=>none
|_,_=>none
def ug (ev:Ev) (fn:Fn) (a b:List Operand):OV:=match evs ev a,evs ev b with
|some u,some v=>some (.func fn u.toArray v.toArray)
|_,_=>none
def tY (h:AH):R:=match h.new (.mp []) with|some (k,h')=>some (.eff (.map (some k)) h')|none=>none
def JF (P:Program) (t:TypeId) (m k x:OV) (h:AH):R:=match m,k,x with
|some (.map (some r)),some k,some v=>match h.t.get r with
 |some (.mp es)=>match Vq P t with
  |some (kt,_)=>cond (KN kt k && es.all (fun p=>KN kt p.1) && es.all (fun p=>MF p.1 k)) (some (.eff undef ⟨h.t.put r (some (.mp (es++[(k,v)]))),h.n⟩)) none
  |none=>none
 |_=>none
|_,_,_=>none
def X4 (P:Program) (t:TypeId) (m k:OV) (ok:Bool) (h:AH):OV:=match m,k with
|some (.map (some r)),some k=>match h.t.get r with
 |some (.mp es)=>match Vq P t with
  |some (kt,vt)=>cond (KN kt k && es.all (fun p=>KN kt p.1)) (match iZ k es with
   |some v=>some (cond ok (.tuple [v,.bool true].toArray) v)
   |none=>cond (es.all (fun p=>MF p.1 k)) (match P.info? vt with
    |some i=>match i.zero with
     |some z=>cond (BM z) (some (cond ok (.tuple [z,.bool false].toArray) z)) none
     |none=>none
    |none=>none) none) none
  |none=>none
 |_=>none
|_,_=>none
def dh (P:Program) (t:TypeId) (l c:OV) (h:AH):R:=match l,c,MP P t with
|some (.int _ (.ofNat n)),some (.int _ (.ofNat m)),some (e,s)=>match G8 P e with
 |some z=>cond (Nat.ble n m && Nat.ble (Nat.mul m s) 1000000 && Nat.ble m 1000000 && LJ P e) (RZ h (BK z m) n m) none
 |none=>none
|_,_,_=>none
def S9 (P:Program) (t:TypeId) (x:OV) (lo hi mx:Option OV):OV:=match x with
|some (.slice a len cap)=>match MP P t with|some (_,s)=>aslice s a len cap lo hi mx|none=>none
|some (.pointer (some a))=>match TJ P t with|some (n,_,s)=>cond (Nat.blt n HALF) (aslice s (some a) n n lo hi mx) none|none=>none
|_=>none
def Nu (P:Program) (s:TypeId) (x:OV) (f:Nat):OV:=match x,Oc P s f with
|some (.pointer (some ⟨k,off,none⟩)),some (d,_,n)=>cond (Nat.beq n 0) none (J7 (Nat.add off d) fun o=>some (.pointer (some ⟨k,o,none⟩)))
|_,_=>none
def dB (P:Program) (s:TypeId) (x:OV) (f:Nat):OV:=match x,Oc P s f with
|some (.agg cs),some (d,t,_)=>apart P t cs.toList d
|_,_=>none
def iP (k off j s n:Nat):OV:=cond (Nat.blt j n) (J7 (Nat.add off (Nat.mul j s)) fun o=>some (.pointer (some ⟨k,o,none⟩))) none
def Ns (P:Program) (t:TypeId) (x i:OV):OV:=match x,i with
|some (.pointer (some ⟨k,off,none⟩)),some (.int _ (.ofNat j))=>match TJ P t with|some (n,_,s)=>iP k off j s n|none=>none
|some (.slice (some ⟨k,off,none⟩) n _),some (.int _ (.ofNat j))=>match MP P t with|some (_,s)=>iP k off j s n|none=>none
|_,_=>none
def A7K (P:Program) (t:TypeId) (x i:OV):OV:=match x,i with
|some (.string b),some (.int _ (.ofNat j))=>cond (Py P t) (match lat b.data.toList j with|some y=>some (.int .u8 (.ofNat y.toNat))|none=>none) none
|some (.agg cs),some (.int _ (.ofNat j))=>match TJ P t with
 |some (n,e,s)=>cond (Nat.blt j n) (apart P e cs.toList (Nat.mul j s)) none
 |none=>none
|_,_=>none
def Si (x:OV) (i:Nat):OV:=match x with|some (.tuple vs)=>lat vs.toList i|_=>none
def dF (P:Program) (f:OV) (l:List Value):R:=match f with
|some (.func (.func k) a b)=>cond (enters P k) (some (.call k (a.toList++(l++b.toList)))) none
|_=>none
def NC (P:Program) (t:TypeId):Bool:=match P.underlying t with|some (.int _)=>true|_=>false
def X7 (P:Program) (ts:List TypeId) (l:List Value) (h:AH):R:=match ts,l with
|[t,tx],[s,x]=>match cond (NC P tx) (QX P t true s x h) (cond (Nat.beq t tx) (QX P t false s x h) none) with
 |some (v,h')=>some (.eff v h')
 |none=>none
|_,_=>none
def uh (P:Program) (ts:List TypeId) (l:List Value) (h:AH):R:=match ts,l with
|t::_,[.slice a n _,.slice b m d]=>match MP P t with
 |some (_,s)=>J7 (cond (Nat.ble m n) m n) fun k=>cond (Nat.beq k 0) (some (.val (.int .i64 0))) (match JW s k h (.slice b m d),a with
   |some vs,some ⟨r,off,none⟩=>cond (xQ vs) (re (.int .i64 (.ofNat k)) (h.lay r off vs)) none
   |_,_=>none)
 |none=>none
|_,_=>none
def dD (P:Program) (ts:List TypeId) (l:List Value) (h:AH):R:=match ts,l with
|t::_,[.slice (some ⟨r,off,none⟩) n _]=>match MP P t with
 |some (e,_)=>match G8 P e with
  |some z=>cond (Nat.beq n 0) (some (.val undef)) (cond (xQ (BK z n)) (re undef (h.lay r off (BK z n))) none)
  |none=>none
 |none=>none
|_,_=>none
def A28 (P:Program) (ts:List TypeId) (l:List Value) (h:AH):OV:=match ts,l with
|t::_,[.map (some r)]=>match h.t.get r with
 |some (.mp es)=>match P.underlying t with|some (.map _ _)=>J7 es.length fun n=>some (.int .i64 (.ofNat n))|_=>none
 |_=>none
|t::_,[.string s]=>match P.underlying t with|some .string=>J7 s.size fun n=>some (.int .i64 (.ofNat n))|_=>none
|t::_,[.slice _ n _]=>match P.underlying t with|some (.slice _)=>some (.int .i64 (.ofNat n))|_=>none
|_,_=>none
def A29 (P:Program) (ts:List TypeId) (l:List Value):OV:=match ts,l with
|t::_,[.slice _ _ c]=>cond (Nat.ble HALF c) none (match P.underlying t with|some (.slice _)=>some (.int .i64 (.ofNat c))|_=>none)
|_,_=>none
def A0a (big:Bool) (l:List Value):OV:=match l with
|[.int k x,.int _ y]=>some (.int k (cond (cond big (decide (y > x)) (decide (y < x))) y x))
|_=>none
def Yp (P:Program) (b:Builtin) (ts:List TypeId) (l:List Value) (h:AH):R:=match b with
|.len=>rv (A28 P ts l h)
|.max=>rv (A0a true l)
|.min=>rv (A0a false l)
|.append=>X7 P ts l h
|.copy=>uh P ts l h
|.clear=>dD P ts l h
|.cap=>rv (A29 P ts l)
|_=>none
def O4 (P:Program) (ev:Ev) (c:Call) (h:AH):R:=match A2t ev c.args.toList with
|some l=>match c.callee with
 |.value f=>dF P (ev f) l
 |.builtin b=>Yp P b c.argTypes.toList l h
 |.invoke _ _=>none
|none=>none
def omap (ev:Ev) (x:Option Operand):Option OV:=match x with|some x=>some (ev x)|none=>none
inductive CO where
|mk (f:Program->Ev->AH->R)
def co (o:Op):CO :=
 match o with
|.move x=>.mk fun _ ev _=>rv (ev x)
|.assign x=>.mk fun _ ev _=>rv (ev x)
|.pick c a b=>.mk fun _ ev _=>rv (tN (ev c) (ev a) (ev b))
|.nilCheck x=>.mk fun _ ev _=>rv (A27 (ev x))
|.alloc t=>.mk fun P _ h=>Sm P t h
|.box _ x=>.mk fun _ ev h=>A2a (ev x) h
|.build t ps=>.mk fun P ev _=>rv (dG P ev t ps.toList)
|.buildSlice t len ps=>.mk fun P ev h=>X6 P ev t len ps.toList h
|.load t a=>.mk fun P ev h=>rv (ZR P t (ev a) h)
|.store t a x=>.mk fun P ev h=>re undef (fO P t (ev a) (ev x) h)
|.binOp op t x y _=>.mk fun P ev _=>rv (A2b P op t (isK x || isK y) (ev x) (ev y))
|.unOp op _ x=>.mk fun P ev _=>rv (oUn P op (ev x))
|.convert s d x=>.mk fun P ev h=>Sj P s d (ev x) h
|.makeFunc fn a b=>.mk fun _ ev _=>rv (ug ev fn a.toList b.toList)
|.makeMap _ none=>.mk fun _ _ h=>tY h
|.mapUpdate t m k x=>.mk fun P ev h=>JF P t (ev m) (ev k) (ev x) h
|.insert t m k x=>.mk fun P ev h=>JF P t (ev m) (ev k) (ev x) h
|.lookup t m k ok=>.mk fun P ev h=>rv (X4 P t (ev m) (ev k) ok h)
|.makeSlice t l c=>.mk fun P ev h=>dh P t (ev l) (ev c) h
|.slice t x lo hi mx=>.mk fun P ev _=>rv (S9 P t (ev x) (omap ev lo) (omap ev hi) (omap ev mx))
|.fieldAddr s x f=>.mk fun P ev _=>rv (Nu P s (ev x) f)
|.field s x f=>.mk fun P ev _=>rv (dB P s (ev x) f)
|.indexAddr t x i=>.mk fun P ev _=>rv (Ns P t (ev x) (ev i))
|.index t x i=>.mk fun P ev _=>rv (A7K P t (ev x) (ev i))
|.extract x i=>.mk fun _ ev _=>rv (Si (ev x) i)
|.call c=>.mk fun P ev h=>O4 P ev c h
|_=>.mk fun _ _ _=>none
def aop (P:Program) (ev:Ev) (o:Op) (h:AH):R:=CO.rec (motive:=fun _=>R) (fun f=>f P ev h) (co o)
inductive AX where
|normal
|exit (id:Nat)
|goto (l:Nat)
|ret
abbrev Et:=FuncId->List Value->AH->Option (Value × AH)
def isB (want:Bool) (v:Value):Bool:=match v with|.bool b=>b == want|_=>false
def OB (ops:Array Oper) (t:Tm) (g:Option (Nat × Bool)):Option Bool :=
 match g with
|none=>some true
|some (j,want)=>match ops[j]? with
 |some p=>match p.dst with
  |some d=>cond (Nat.ble d 1000000) (some (isB want (Cc t d))) none
  |none=>some false
 |none=>some false
def gG (nt:Nat) (t:Tm) (d:Option Tmp) (v:Value) (h:AH):Option (Tm × AH) :=
 Option.rec (motive:=fun _=>Option (Tm × AH)) (some (t,h)) (fun d=>cond (Nat.ble (Nat.succ d) nt) (some (t.put d (some v),h)) none) d
def A1v (nt:Nat) (t:Tm) (d:Option Tmp) (x:Option (Value × AH)):Option (Tm × AH) :=
 Option.rec (motive:=fun _=>Option (Tm × AH)) none (fun p=>Prod.rec (motive:=fun _=>Option (Tm × AH)) (fun v h=>gG nt t d v h) p) x
def A2T (C:Et) (nt:Nat) (t:Tm) (d:Option Tmp) (h:AH) (r:Uu):Option (Tm × AH) :=
 Uu.rec (motive:=fun _=>Option (Tm × AH)) (fun v=>gG nt t d v h) (fun v h'=>gG nt t d v h') (fun f args=>A1v nt t d (C f args h)) r
def U7 (P:Program) (C:Et) (ops:Array Oper) (nt:Nat) (o:Oper) (t:Tm) (h:AH):Option (Tm × AH) :=
 Option.rec (motive:=fun _=>Option (Tm × AH)) none (fun b=>cond b (Option.rec (motive:=fun _=>Option (Tm × AH)) none (fun r=>A2T C nt t o.dst h r) (aop P (aev t) o.op h)) (gG nt t o.dst undef h)) (OB ops t o.guard)
def fU (P:Program) (C:Et) (ops:Array Oper) (nt:Nat) (l:List Oper):Tm->AH->Option (Tm × AH) :=
 List.rec (motive:=fun _=>Tm->AH->Option (Tm × AH)) (fun t h=>some (t,h)) (fun o _ ih t h=>Option.rec (motive:=fun _=>Option (Tm × AH)) none (fun p=>Prod.rec (motive:=fun _=>Option (Tm × AH)) (fun t' h'=>ih t' h') p) (U7 P C ops nt o t h)) l
def Bc (o:Op):Bool:=match o with
|.alloc _=>true
|.box _ _=>true
|.buildSlice _ _ _=>true
|.store _ _ _=>true
|.makeMap _ _=>true
|.insert _ _ _ _=>true
|.mapUpdate _ _ _ _=>true
|.convert s d _=>Nat.beq s d
|.makeSlice _ _ _=>true
|.call c=>match c.callee with
 |.builtin .len=>false
 |.builtin .max=>false
 |.builtin .min=>false
 |_=>true
|_=>false
def Pz (o:Op):Bool:=match o with
|.load _ _=>true
|.lookup _ _ _ _=>true
|.convert s d _=>not (Nat.beq s d)
|.call c=>match c.callee with|.builtin .len=>true|_=>false
|_=>false
def tmpsOf:List Operand->List Nat
|[]=>[]
|.tmp i::l=>i::tmpsOf l
|_::l=>tmpsOf l
def Tt (ops:Array Oper) (g:Option (Nat × Bool)):List Nat:=match g with
|some (j,_)=>match ops[j]? with|some p=>p.dst.toList|none=>[]
|none=>[]
def Dh (ops:Array Oper) (o:Oper):List Nat:=Tt ops o.guard++tmpsOf o.op.operands.toList
def PE (l:List Nat) (n:Nat):Bool:=List.rec (motive:=fun _=>Bool) false (fun m _ ih=>cond (Nat.beq m n) true ih) l
def IC (ns:List Nat) (t:Tm) (x:Operand):OV:=match x with
|.tmp i=>cond (PE ns i) (aev t (.tmp i)) none
|.const v=>aev t (.const v)
|.global _=>none
|.func f=>aev t (.func f)
def jH (P:Program) (C:Et) (ns:List Nat) (o:Op) (t:Tm) (h:AH):Option (Value × AH) :=
 match aop P (IC ns t) o h with
|some (.val v)=>some (v,h)
|some (.eff v h')=>cond (Bc o) (some (v,h')) none
|some (.call f args)=>cond (Bc o) (C f args h) none
|none=>none
structure CZ where
 t:Tm
 want:Bool
 v:Value
def UW (nt:Nat) (t:Tm) (d:Option Tmp) (v:Value):Option Tm :=
 match d with
|none=>some t
|some d=>cond (Nat.ble (Nat.succ d) nt) (some (t.put d (some v))) none
def GZ (P:Program) (C:Et) (ops:Array Oper) (o:Oper) (t:Tm) (h:AH):Option (Bool × Value × AH) :=
 match OB ops t o.guard with
|some false=>some (false,undef,h)
|some true=>match jH P C (Dh ops o) o.op t h with|some (v,h')=>some (true,v,h')|none=>none
|none=>none
def jG (r:CZ) (e:Bool) (h:AH) (x:Option (List CZ × List AH × Tm)):Option (List CZ × List AH × Tm) :=
 match x with
|some (rs,hs,tf)=>some (r::rs,cond e (h::hs) hs,tf)
|none=>none
def wR (P:Program) (C:Et) (ops:Array Oper) (nt:Nat):List Oper->Tm->AH->Option (List CZ × List AH × Tm)
|[],t,_=>some ([],[],t)
|o::l,t,h=>match GZ P C ops o t h with
 |some (b,v,h')=>match UW nt t o.dst v with
  |some t'=>jG ⟨t,b,v⟩ (Bc o.op) h' (wR P C ops nt l t' (cond (Bc o.op) h' h))
  |none=>none
 |none=>none
def jD (P:Program) (C:Et) (ops:Array Oper) (nt:Nat) (l:List Oper):Tm->AH->Option (List CZ × List AH × Tm) :=
 List.rec (motive:=fun _=>Tm->AH->Option (List CZ × List AH × Tm)) (fun t _=>some ([],[],t))
  (fun o _ ih t h=>Option.rec (motive:=fun _=>Option (List CZ × List AH × Tm)) none
   (fun p=>Prod.rec (motive:=fun _=>Option (List CZ × List AH × Tm)) (fun b q=>Prod.rec (motive:=fun _=>Option (List CZ × List AH × Tm)) (fun v h' =>
    Option.rec (motive:=fun _=>Option (List CZ × List AH × Tm)) none (fun t'=>jG ⟨t,b,v⟩ (Bc o.op) h' (ih t' (cond (Bc o.op) h' h))) (UW nt t o.dst v)) q) p)
   (GZ P C ops o t h)) l
def Nv (acc:List Nat):List Edge->Nat
|[]=>0
|e::es=>cond (Region.binds .any e) (Nat.lor (Nv acc es) (Nat.lor (Nat.pow 2 e.on) (acc.getD e.on 0))) (Nv acc es)
def mks:List Oper->List Nat->List Nat
|[],acc=>acc
|o::l,acc=>mks l (acc++[Nv acc o.after.toList])
def wC (M:List Nat) (i:Nat):Nat:=Option.rec (motive:=fun _=>Nat) 0 (fun m=>m) (lat M i)
def Fp (M:List Nat) (i j:Nat):Bool:=Nat.beq (Nat.land (Nat.shiftRight (wC M i) j) 1) 1
def YF (acc:List Nat) (es:List Edge):Nat :=
 List.rec (motive:=fun _=>Nat) 0 (fun e _ ih=>cond (Region.binds .any e) (J7 ih fun m=>J7 (Nat.lor m (Nat.lor (Nat.pow 2 e.on) (wC acc e.on))) fun k=>k) ih) es
def uO (l:List Oper):List Nat->List Nat :=
 List.rec (motive:=fun _=>List Nat->List Nat) (fun acc=>acc) (fun o _ ih acc=>J7 (YF acc o.after.toList) fun m=>ih (app acc [m])) l
def allI {α:Type} (p:Nat->α->Bool) (l:List α):Nat->Bool :=
 List.rec (motive:=fun _=>Nat->Bool) (fun _=>true) (fun a _ ih i=>cond (p i a) (J7 (Nat.add i 1) fun j=>ih j) false) l
def P6 (o:Oper) (i:Nat):Bool:=o.after.toList.all fun e=>!Region.binds .any e || Nat.blt e.on i
def PL (ops:Array Oper):Bool :=
 let l:=ops.toList
 let M:=uO l []
 allI (fun i o=>P6 o i && allI (fun j p =>
  (Nat.beq i j || !(match o.dst,p.dst with|some a,some b=>Nat.beq a b|_,_=>false)) &&
  (match p.dst with|some d=>!PE (Dh ops o) d || (Nat.beq j i || cond (Nat.blt j i) (Fp M i j) (Fp M j i))|none=>true) &&
  (!(Bc o.op && Bc p.op && Nat.blt j i) || Fp M i j)) l 0) l 0
def Bf:List Oper->Nat->Nat
|[],_=>0
|_::_,0=>0
|o::l,n+1=>cond (Bc o.op) (Nat.add (Bf l n) 1) (Bf l n)
def sO (l:List Oper) (M:List Nat) (i p:Nat):Bool :=
 allI (fun j o=>!Bc o.op || cond (Nat.blt (Bf l j) p) (!Fp M j i) (!Fp M i j)) l 0
def lU (a b:Option Addr):Bool:=match a,b with
|none,none=>true
|some ⟨k,o,none⟩,some ⟨l,q,none⟩=>Nat.beq k l && Nat.beq o q
|_,_=>false
def zf (a b:Value):Bool:=match a,b with
|.int k x,.int l y=>Nat.beq (Fe k) (Fe l) && decide (x=y)
|.bool x,.bool y=>x == y
|.pointer x,.pointer y=>lU x y
|.slice x n c,.slice y m d=>lU x y && Nat.beq n m && Nat.beq c d
|.nilIface,.nilIface=>true
|.iface t (.pointer x),.iface u (.pointer y)=>Nat.beq t u && lU x y
|.map (some x),.map (some y)=>Nat.beq x y
|.nilFunc,.nilFunc=>true
|.func (.func f) a b,.func (.func g) c d=>Nat.beq f g && (match a.toList,c.toList,b.toList,d.toList with
 |[],[],[],[]=>true
 |[.pointer x],[.pointer y],[],[]=>lU x y
 |_,_,_,_=>false)
|_,_=>false
def Ky:List Value->List Value->Bool
|[],[]=>true
|a::l,b::m=>zf a b && Ky l m
|_,_=>false
def veq (a b:Value):Bool:=match a,b with
|.agg x,.agg y=>Ky x.toList y.toList
|a,b=>zf a b
def ZA (P:Program) (ns:List Nat) (o:Op) (r:CZ) (poss:Nat->Bool):List AH->Nat->Bool
|[],_=>true
|h::hs,p=>cond (poss p) (match aop P (IC ns r.t) o h with|some (.val v)=>veq v r.v|_=>false) true && ZA P ns o r poss hs (Nat.add p 1)
def wS (P:Program) (ops:Array Oper) (l:List Oper) (M:List Nat) (hs:List AH):List Oper->List CZ->Nat->Bool
|[],_,_=>true
|_::_,[],_=>false
|o::m,r::rs,i=>cond (Pz o.op && r.want) (ZA P (Dh ops o) o.op r (sO l M i) hs 0) true && wS P ops l M hs m rs (Nat.add i 1)
def lastH:AH->List AH->AH
|h,[]=>h
|_,h::hs=>lastH h hs
def Nq (v:Value):Bool:=match v with
|.agg cs=>cs.toList.all BM
|v=>BM v
def Nr (v:Value):Bool:=match v with
|.tuple vs=>vs.toList.all Nq
|v=>Nq v
def Wn (P:Program) (C:Et) (ops:Array Oper) (nt:Nat) (t:Tm) (h:AH):Option (Tm × AH) :=
 cond (PL ops) (match jD P C ops nt ops.toList t h with
 |some (rs,hs,tf)=>cond (wS P ops ops.toList (uO ops.toList []) (h::hs) ops.toList rs 0) (some (tf,lastH h hs)) none
 |none=>none) none
def ainit:List Value->Nat->Tm->Tm
|[],_,t=>t
|v::l,i,t=>ainit l (Nat.add i 1) (t.put i (some v))
def JU (P:Program) (t:Tm) (h:AH):List ResultVar->Option (List Value)
|[]=>some []
|.tmp i::l=>match JU P t h l with|some m=>cond (Nat.ble i 1000000) (some (Cc t i::m)) none|none=>none
|.cell i ty::l=>match ZR P ty (some (Cc t i)) h,JU P t h l with
 |some v,some m=>cond (Nat.ble i 1000000) (some (v::m)) none
 |_,_=>none
def A2J:List Value->Value
|[v]=>v
|l=>.tuple l.toArray
abbrev Nb:=Code->Nat->Tm->AH->Option (AX × Tm × AH)
structure AI where
 call:Et
 code:Nb
 loop:Nb
abbrev QG:=AI->FuncId->List Value->AH->Option (Option (Value × AH))
def marksOf:List Value->Option (List Nat)
|[]=>some []
|.map (some k)::l=>match marksOf l with|some m=>some (k::m)|none=>none
|_::_=>none
def xY (v:Value):Option (List Nat):=match v with|.tuple vs=>marksOf vs.toList|_=>none
def LD:List Nat->AH->Option AH
|[],h=>some h
|k::l,h=>match h.t.get k with
 |some .mark=>LD l ⟨h.t.put k none,h.n⟩
 |_=>none
def ZY (P:Program) (rs:List ResultVar) (t:Tm) (h:AH):Option (Value × AH):=match xY (Cc t SB) with
|some ms=>match LD ms h with
 |some h2=>match JU P t h2 rs with
  |some l=>some (A2J l,h2)
  |none=>none
 |none=>none
|none=>none
def jF:Nat->Nat->List Value
|0,_=>[]
|f+1,n=>cond (Nat.beq n 0) [] (.int .i64 (.ofNat (Nat.mod (Nat.sub n 1) 2))::jF f (Nat.div (Nat.sub n 1) 2))
def Jr (v:Nat):Nat->List Value
|0=>[]
|n+1=>.int .u8 (.ofNat (Nat.mod (Nat.div v (Nat.pow 2 n)) 2))::Jr v n
def FZ (x:Int):Nat->List Value
|0=>[.int .i64 0]
|n+1=>.int .i64 1::.int .i64 x::FZ x n
def itT (g:FuncId) (cs:List Value):Option (List Value):=match cs with
|[.int .i64 (.ofNat n)]=>cond (Nat.beq g 281 && Nat.ble n 2147483647) (some (jF 40 n)) none
|[.int .i64 (.ofNat n),.int k (.ofNat v)]=>match k with
 |.u32=>cond (Nat.beq g 263 && Nat.ble n 32 && Nat.ble v 4294967295) (some (Jr v n)) none
 |.i64=>cond (Nat.beq g 262 && (Nat.ble n 1000 && Nat.ble v 1000)) (some (cond (Nat.blt n v) (FZ 1 (Nat.sub v n)) (FZ 0 (Nat.sub n v)))) none
 |_=>none
|_=>none
def unbox:List Value->AH->Option (List Value × AH)
|[],h=>some ([],h)
|v::l,h=>match v with
 |.pointer (some ⟨k,0,none⟩)=>(match h.t.get k with
  |some (.row [c] 0)=>(match unbox l ⟨h.t.put k none,h.n⟩ with
   |some (cs,h')=>some (c::cs,h')
   |none=>none)
  |_=>none)
 |_=>none
def iQ (ops:Array Oper):Bool:=ops.toList.all fun o=>match o.op with|.defer _=>false|_=>true
def ku (P:Program) (C:Et) (nt:Nat) (c:Code) (t:Tm) (h:AH):Option (Tm × AH):=match c with
|.region _ ops false=>cond (iQ ops) (fU P C ops nt ops.toList t h) none
|_=>none
def gJ (P:Program) (C:Et) (nt:Nat) (c:Code) (t:Tm) (h:AH):Option AH:=match c with
|.block _ b=>match ku P C nt b t h with|some (_,h')=>some h'|none=>none
|_=>none
def gy (P:Program) (C:Et) (nt p:Nat) (as b:Code) (t:Tm) (x:Value) (h:AH):Option AH :=
 match ku P C nt as ((t.put SB (some undef)).put p (some x)) h with
|some (t',h')=>gJ P C nt b t' h'
|none=>none
def Ep (P:Program) (C:Et) (nt p:Nat) (as b:Code) (t:Tm):List Value->AH->Option AH
|[],h=>some h
|x::l,h=>match gy P C nt p as b t x h with
 |some h'=>Ep P C nt p as b t l h'
 |none=>none
def XH (P:Program) (C:Et) (f:Operand) (ps:Array Tmp) (as b:Code) (nt:Nat) (t:Tm) (h:AH):Option (Tm × AH) :=
 match aev t f,ps.toList,xY (Cc t SB) with
|some (.func (.func g) pre post),[p],some ms=>cond (pre.toList.isEmpty && (enters P g && Nat.blt p nt)) (match unbox post.toList h with
 |some (cs,h1)=>match itT g cs with
  |some xs=>cond (cs.all BM && xs.all BM) (match h1.new .mark with
   |some (km,h2)=>match Ep P C nt p as b t xs h2 with
    |some h3=>some (t.put SB (some (.tuple (.map (some km)::ms.map fun k=>Value.map (some k)).toArray)),h3)
    |none=>none
   |none=>none) none
  |none=>none
 |none=>none) none
|_,_,_=>none
def aBody (P:Program) (D:Nb) (fn:Func) (args:List Value) (h:AH):Option (Value × AH) :=
 match fn.body with
|some c=>match cond (Nat.ble fn.ntmps 1000000 && Nat.ble args.length fn.ntmps) (D c fn.ntmps (ainit args 0 .nil) h) none with
 |some (.normal,t',h')=>ZY P fn.results.toList t' h'
 |some (.ret,t',h')=>ZY P fn.results.toList t' h'
 |_=>none
|none=>none
def yg (P:Program) (S:QG) (D:AI):Et:=fun f args h =>
 match S D f args h with
|some x=>x
|none=>match P.funcs[f]? with|some fn=>aBody P D.code fn args h|none=>none
def ZW (x:Option (AX × Tm × AH)) (k:Tm->AH->Option (AX × Tm × AH)):Option (AX × Tm × AH) :=
 match x with
|some (.normal,t,h)=>k t h
|x=>x
def gK (i:Nat) (x:Option (AX × Tm × AH)):Option (AX × Tm × AH) :=
 match x with
|some (.exit j,t,h)=>cond (Nat.beq j i) (some (.normal,t,h)) (some (.exit j,t,h))
|x=>x
def yc (x:OV) (a b:Option (AX × Tm × AH)):Option (AX × Tm × AH) :=
 match x with
|some (.bool true)=>a
|some (.bool false)=>b
|_=>none
def LP (x:Option (Tm × AH)):Option (AX × Tm × AH):=match x with|some (t,h)=>some (.normal,t,h)|none=>none
def xZ (r:AI):Nb:=fun c nt t h=>ZW (r.code c nt t h) fun t h=>r.loop c nt t h
def A1w (P:Program) (r:AI):Nb:=fun c nt t h =>
 match c with
|.skip=>some (.normal,t,h)
|.label _=>some (.normal,t,h)
|.ret=>some (.ret,t,h)
|.exit i=>some (.exit i,t,h)
|.goto l=>some (.goto l,t,h)
|.seq a b=>ZW (r.code a nt t h) fun t h=>r.code b nt t h
|.cond x a b=>yc (aev t x) (r.code a nt t h) (r.code b nt t h)
|.block i a=>gK i (r.code a nt t h)
|.loop a=>r.loop a nt t h
|.region _ ops d=>LP (cond d (Wn P r.call ops nt t h) (fU P r.call ops nt ops.toList t h))
|.rangeFunc f ps as b=>LP (XH P r.call f ps as b nt t h)
|_=>none
def ai (P:Program) (S:QG) (n:Nat):AI :=
 Nat.rec (motive:=fun _=>AI) ⟨fun _ _ _=>none,fun _ _ _ _=>none,fun _ _ _ _=>none⟩ (fun _ r=>⟨yg P S r,A1w P r,xZ r⟩) n
end
end Go.Proofs.YtkpbhdhkdonghaaGreat
