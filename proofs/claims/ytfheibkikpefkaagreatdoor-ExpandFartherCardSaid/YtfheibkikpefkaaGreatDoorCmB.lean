/- The plain machine's operations. No condition. -/
import Derived.Test.YtfheibkikpefkaaGreatDoorCmA
set_option linter.unusedVariables false
set_option linter.unusedSimpArgs false
noncomputable section
namespace Go.CM
mutual
def cvEq:CV->CV->Bool
 | .undef,.undef=>true
 | .bool a,.bool b=>a==b
 | .int k a,.int k' b=>kindEq k k'&&intEq a b
 | .str a,.str b=>bytesEq a b
 | .ptr none,.ptr none=>true
 | .ptr (some p),.ptr (some q)=>Nat.beq p.1 q.1&&Nat.beq p.2 q.2
 | .slice none n c x,.slice none n' c' x'=>Nat.beq n n'&&Nat.beq c c'&&Nat.beq x x'
 | .slice (some p) n c x,.slice (some q) n' c' x'=>Nat.beq p.1 q.1&&Nat.beq p.2 q.2&&Nat.beq n n'&&Nat.beq c c'&&Nat.beq x x'
 | .map none,.map none=>true
 | .map (some r),.map (some q)=>Nat.beq r q
 | .fn f a b,.fn g c d=>Nat.beq f g&&cvsEq a c&&cvsEq b d
 | .yield l,.yield m=>Nat.beq l m
 | .nilFunc,.nilFunc=>true
 | .iface t v,.iface u w=>Nat.beq t u&&cvEq v w
 | .nilIface,.nilIface=>true
 | .empty,.empty=>true
 | .agg a,.agg b=>cvsEq a b
 | .tup a,.tup b=>cvsEq a b
 |_,_=>false
def cvsEq:List CV->List CV->Bool
 |[],[]=>true
 |a::x,b::y=>cvEq a b&&cvsEq x y
 |_,_=>false
end
def CV.flat:CV->Bool
 | .bool _=>true
 | .int _ _=>true
 | .str _=>true
 |_=>false
def CV.plain:CV->Bool
 | .agg cs=>cs.all CV.flat
 | .tup cs=>cs.all CV.flat
 |v=>v.flat
def kindAt (E:Env) (t:TypeId):Option TyK:=
 match E.ty t with
 |some s=>some s.kind
 |none=>none
def part (cs:List CV) (off size:Nat) (agg:Bool):Option CV:=
 match agg with
 |true=>(cut cs off size).map .agg
 |false=>nth cs off
def loadB (b:Option Blk) (s:Option TyS) (off:Nat):Option CV:=
 match b with
 |some (.cells cs _)=>match s with
  |some s=>part cs off s.size s.agg
  |none=>none
 |_=>none
def load (E:Env) (h:Heap) (t:TypeId) (id off:Nat):Option CV:=loadB (h.get id) (E.ty t) off
def putCells (h:Heap) (id off:Nat) (vs:List CV):Option Heap:=
 match h.get id with
 |some (.cells cs false)=>(setAt cs vs off).map λcs'=>h.put id (.cells cs' false)
 |_=>none
def storeV (h:Heap) (s:Option TyS) (id off:Nat) (vs:Option (List CV)):Option Heap:=
 match s with
 |some s=>match vs with
  |some vs=>match Nat.beq (len vs) s.size with
   |true=>putCells h id off vs
   |false=>none
  |none=>none
 |none=>none
def store (E:Env) (h:Heap) (t:TypeId) (id off:Nat) (v:CV):Option Heap:=storeV h (E.ty t) id off v.cells
def eqFields (E:Env) (rec:TypeId->CV->CV->Option Bool):List (TypeId×Nat)->List CV->List CV->Option Bool
 |[],_,_=>some true
 |(t,off)::r,xs,ys=>match E.ty t with
  |none=>none
  |some s=>match part xs off s.size s.agg with
   |none=>none
   |some x=>match part ys off s.size s.agg with
    |none=>none
    |some y=>match rec t x y with
     |some true=>eqFields E rec r xs ys
     |some false=>some false
     |none=>none
def eqK (E:Env) (rec:TypeId->CV->CV->Option Bool) (s:TyS) (x y:CV):Option Bool:=
 match s.kind with
 | .bool=>match x with
   | .bool a=>match y with
     | .bool b=>some (a==b)
     |_=>none
   |_=>none
 | .int _=>match x with
   | .int k a=>match y with
     | .int k' b=>match kindEq k k' with
       |true=>some (intEq a b)
       |false=>none
     |_=>none
   |_=>none
 | .string=>match x with
   | .str a=>match y with
     | .str b=>some (bytesEq a b)
     |_=>none
   |_=>none
 | .pointer _=>match x with
   | .ptr none=>match y with
     | .ptr b=>some b.isNone
     |_=>none
   | .ptr (some _)=>match y with
     | .ptr none=>some false
     |_=>none
   |_=>none
 | .iface=>match x with
   | .nilIface=>match y with
     | .nilIface=>some true
     | .iface _ _=>some false
     |_=>none
   | .iface tx vx=>match y with
     | .nilIface=>some false
     | .iface ty vy=>match Nat.beq tx ty with
       |true=>match(E.ty tx).map (·.cmp)with
        |some true=>rec tx vx vy
        |_=>none
       |false=>some false
     |_=>none
   |_=>none
 | .struct fs=>match s.cmp with
   |true=>match x with
    | .agg xs=>match y with
      | .agg ys=>eqFields E rec fs xs ys
      |_=>none
    |_=>none
   |false=>none
 | .slice _=>match x with
   | .slice none _ _ _=>match y with
     | .slice b _ _ _=>some b.isNone
     | .empty=>some false
     |_=>none
   | .slice (some _) _ _ _=>match y with
     | .slice none _ _ _=>some false
     |_=>none
   | .empty=>match y with
     | .slice none _ _ _=>some false
     |_=>none
   |_=>none
 | .map _ _=>match x with
   | .map none=>match y with
     | .map b=>some b.isNone
     |_=>none
   | .map (some _)=>match y with
     | .map none=>some false
     |_=>none
   |_=>none
 | .func=>match x with
   | .nilFunc=>match y with
     | .nilFunc=>some true
     | .fn _ _ _=>some false
     |_=>none
   | .fn _ _ _=>match y with
     | .nilFunc=>some false
     |_=>none
   |_=>none
 |_=>none
def eqT (E:Env):Nat->TypeId->CV->CV->Option Bool
 |0,_,_,_=>none
 |d+1,t,x,y=>match E.ty t with
  |some s=>eqK E (eqT E d) s x y
  |none=>none
def intBin (op:BinOp) (k:IntKind) (a b:Int):Option CV:=
 match op with
 | .add=>some (.int k (k.wrap (a+b)))
 | .sub=>some (.int k (k.wrap (a-b)))
 | .mul=>some (.int k (k.wrap (a*b)))
 | .quo=>match intEq b 0 with
   |true=>none
   |false=>some (.int k (k.wrap (a.tdiv b)))
 | .rem=>match intEq b 0 with
   |true=>none
   |false=>some (.int k (a.tmod b))
 | .and=>some (.int k (k.wrap ((BitVec.ofInt k.bits a &&& BitVec.ofInt k.bits b).toNat)))
 | .or=>some (.int k (k.wrap ((BitVec.ofInt k.bits a ||| BitVec.ofInt k.bits b).toNat)))
 | .xor=>some (.int k (k.wrap ((BitVec.ofInt k.bits a ^^^ BitVec.ofInt k.bits b).toNat)))
 | .andNot=>some (.int k (k.wrap ((BitVec.ofInt k.bits a &&& ~~~ BitVec.ofInt k.bits b).toNat)))
 | .eql=>some (.bool (intEq a b))
 | .neq=>some (.bool (!intEq a b))
 | .lss=>some (.bool (!intLe b a))
 | .leq=>some (.bool (intLe a b))
 | .gtr=>some (.bool (!intLe a b))
 | .geq=>some (.bool (intLe b a))
 |_=>none
def intOp (op:BinOp) (k k':IntKind) (a b:Int):Option CV:=
 match op with
 | .shl=>match intLe 0 b with
   |true=>some (.int k (k.wrap (a*2 ^ (min b.toNat k.bits))))
   |false=>none
 | .shr=>match intLe 0 b with
   |true=>some (.int k (a.fdiv (2 ^ (min b.toNat k.bits))))
   |false=>none
 |_=>match kindEq k k' with
  |true=>intBin op k a b
  |false=>none
def strOp (op:BinOp) (a b:List UInt8):Option CV:=
 match op with
 | .add=>match Nat.ble (len a+len b) 1048576 with
   |true=>some (.str (a++b))
   |false=>none
 | .eql=>some (.bool (bytesEq a b))
 | .neq=>some (.bool (!bytesEq a b))
 | .lss=>some (.bool (bytesLess a b))
 | .leq=>some (.bool (bytesLess a b||bytesEq a b))
 | .gtr=>some (.bool (!(bytesLess a b||bytesEq a b)))
 | .geq=>some (.bool (!bytesLess a b))
 |_=>none
def guardEq (c:Bool) (x y:CV):Bool:=
 match c with
 |true=>true
 |false=>match x with
  | .nilIface=>match y with
    | .nilIface=>false
    |_=>true
  |_=>true
def anyEq (E:Env) (op:BinOp) (t:TypeId) (c:Bool) (x y:CV):Option CV:=
 match guardEq c x y with
 |false=>none
 |true=>match op with
  | .eql=>(eqT E 20 t x y).map .bool
  | .neq=>(eqT E 20 t x y).map λb=> .bool (!b)
  |_=>none
def binop (E:Env) (op:BinOp) (t:TypeId) (c:Bool) (x y:CV):Option CV:=
 match x with
 | .int k a=>match y with
   | .int k' b=>intOp op k k' a b
   |_=>none
 | .str a=>match y with
   | .str b=>strOp op a b
   |_=>none
 |_=>anyEq E op t c x y
def unop (op:UnOp) (x:CV):Option CV:=
 match op with
 | .neg=>match x with
   | .int k n=>some (.int k (k.wrap (0-n)))
   |_=>none
 | .not=>match x with
   | .bool b=>some (.bool (!b))
   |_=>none
 | .xor=>match x with
   | .int k n=>some (.int k (k.wrap ((BitVec.ofInt k.bits (if k.signed then -1 else k.max) ^^^ BitVec.ofInt k.bits n).toNat)))
   |_=>none
 |_=>none
def fillAt (place:Nat->Option (Nat×Nat)):List CV->List (Nat×CV)->Option (List CV)
 |cells,[]=>some cells
 |cells,(i,v)::rest=>match place i with
  |none=>none
  |some (off,size)=>match v.cells with
   |none=>none
   |some vs=>match Nat.beq (len vs) size with
    |false=>none
    |true=>match setAt cells vs off with
     |none=>none
     |some c=>fillAt place c rest
def sizeOf? (E:Env) (t:TypeId):Option Nat:=(E.ty t).map (·.size)
def placesOf (E:Env):List (TypeId×Nat)->Option (List (Nat×Nat))
 |[]=>some []
 |f::r=>match sizeOf? E f.1 with
  |some n=>match placesOf E r with
   |some l=>some ((f.2,n)::l)
   |none=>none
  |none=>none
def fieldOf (s:Option TyS) (f:Nat):Option (TypeId×Nat):=
 match s with
 |some s=>match s.kind with
  | .struct fs=>nth fs f
  |_=>none
 |none=>none
def hiOf (hi:Option CV) (len cap:Nat):Option Nat:=
 match hi with
 |none=>some len
 |some (.int _ n)=>upto n cap
 |some _=>none
def loOf (lo:Option CV) (h:Nat):Option Nat:=
 match lo with
 |none=>some 0
 |some (.int _ n)=>upto n h
 |some _=>none
def oPick (c a b:CV) (h:Heap):Option (CV×Heap):=
 match c with
 | .bool c=>match c with
   |true=>some (a,h)
   |false=>some (b,h)
 |_=>none
def withH (h:Heap) (v:Option CV):Option (CV×Heap):=
 match v with
 |some v=>some (v,h)
 |none=>none
def ofH (h:Option Heap):Option (CV×Heap):=
 match h with
 |some h=>some (.undef,h)
 |none=>none
def newPtr (h:Heap) (cs:Option (List CV)):Option (CV×Heap):=
 match cs with
 |some cs=>some (.ptr (some (h.next,0)),h.new (.cells cs false))
 |none=>none
def oBuild (E:Env) (s:Option TyS) (parts:List (Nat×CV)) (h:Heap):Option (CV×Heap):=
 match s with
 |some s=>match s.kind with
  | .struct fs=>match placesOf E fs with
    |some pl=>withH h ((fillAt (nth pl) s.zero parts).map .agg)
    |none=>none
  | .array _ e=>match sizeOf? E e with
    |some n=>withH h ((fillAt (λi=>some (i*n,n)) s.zero parts).map .agg)
    |none=>none
  |_=>none
 |none=>none
def rep (zero:List CV):Nat->List CV
 |0=>[]
 |n+1=>zero++rep zero n
def newSl (h:Heap) (n cap:Nat) (cs:Option (List CV)):Option (CV×Heap):=
 match cs with
 |some cs=>some (.slice (some (h.next,0)) n cap 0,h.new (.cells cs false))
 |none=>none
def oBuildSlice (E:Env) (s:Option TyS) (n:Nat) (parts:List (Nat×CV)) (h:Heap):Option (CV×Heap):=
 match s with
 |some s=>match s.kind with
  | .slice e=>match E.ty e with
    |some es=>match Nat.ble (n*es.size+n) 16777216 with
     |true=>newSl h n n (fillAt (λi=>some (i*es.size,es.size)) (rep es.zero n) parts)
     |false=>none
    |none=>none
  |_=>none
 |none=>none
def oLoad (E:Env) (t:TypeId) (a:CV) (h:Heap):Option (CV×Heap):=
 match a with
 | .ptr (some p)=>withH h (load E h t p.1 p.2)
 |_=>none
def oStore (E:Env) (t:TypeId) (a v:CV) (h:Heap):Option (CV×Heap):=
 match a with
 | .ptr (some p)=>ofH (store E h t p.1 p.2 v)
 |_=>none
def oNil (x:CV) (h:Heap):Option (CV×Heap):=
 match x with
 | .ptr (some p)=>some (.ptr (some p),h)
 | .fn f a b=>some (.fn f a b,h)
 | .yield l=>some (.yield l,h)
 | .iface t v=>some (.iface t v,h)
 |_=>none
def oMakeSlice (E:Env) (s:Option TyS) (l c:CV) (h:Heap):Option (CV×Heap):=
 match s with
 |some s=>match s.kind with
  | .slice e=>match E.ty e with
    |some es=>match c with
     | .int .i64 c=>match upto c 1048576 with
       |some c=>match l with
        | .int .i64 l=>match upto l c with
          |some l=>match Nat.ble es.bytes 4096 with
           |true=>newSl h l c (some (rep es.zero c))
           |false=>none
          |none=>none
        |_=>none
       |none=>none
     |_=>none
    |none=>none
  |_=>none
 |none=>none
def oFieldAddr (E:Env) (fo:Option (TypeId×Nat)) (x:CV) (h:Heap):Option (CV×Heap):=
 match fo with
 |some fo=>match sizeOf? E fo.1 with
  |some (_+1)=>match x with
   | .ptr (some p)=>some (.ptr (some (p.1,p.2+fo.2)),h)
   |_=>none
  |_=>none
 |none=>none
def oField (E:Env) (fo:Option (TypeId×Nat)) (x:CV) (h:Heap):Option (CV×Heap):=
 match fo with
 |some fo=>match E.ty fo.1 with
  |some s=>match x with
   | .agg cs=>withH h (part cs fo.2 s.size s.agg)
   |_=>none
  |none=>none
 |none=>none
def addrAt (id o:Nat) (z:Option Nat) (i:Option Nat) (h:Heap):Option (CV×Heap):=
 match z with
 |some z=>match i with
  |some i=>some (.ptr (some (id,o+i*z)),h)
  |none=>none
 |none=>none
def oIndexAddr (E:Env) (s:Option TyS) (x i:CV) (h:Heap):Option (CV×Heap):=
 match i with
 | .int _ n=>match s with
   |some s=>match s.kind with
    | .array len e=>match x with
      | .ptr (some p)=>addrAt p.1 p.2 (sizeOf? E e) (place n len) h
      |_=>none
    | .slice e=>match x with
      | .slice (some p) len _ _=>addrAt p.1 p.2 (sizeOf? E e) (place n len) h
      |_=>none
    |_=>none
   |none=>none
 |_=>none
def oIndex (E:Env) (s:Option TyS) (x i:CV) (h:Heap):Option (CV×Heap):=
 match i with
 | .int _ n=>match s with
   |some s=>match s.kind with
    | .array len e=>match x with
      | .agg cs=>match place n len with
        |some i=>match E.ty e with
         |some es=>withH h (part cs (i*es.size) es.size es.agg)
         |none=>none
        |none=>none
      |_=>none
    | .string=>match x with
      | .str b=>match n with
        | .ofNat i=>match nth b i with
          |some c=>some (.int .u8 c.toNat,h)
          |none=>none
        | .negSucc _=>none
      |_=>none
    |_=>none
   |none=>none
 |_=>none
def sliceAtO (p:Option (Nat×Nat)) (l z:Nat):Option (Nat×Nat):=
 match p with
 |some p=>some (p.1,p.2+l*z)
 |none=>none
def oSlice (E:Env) (s:Option TyS) (x:CV) (lo hi mx:Option CV):Option CV:=
 match s with
 |none=>none
 |some s=>match s.kind with
  | .string=>match x with
    | .str b=>match mx with
      |none=>match hiOf hi (len b) (len b)with
       |some h=>match loOf lo h with
        |some l=>(cut b l (h-l)).map .str
        |none=>none
       |none=>none
      |some _=>none
    |_=>none
  | .slice e=>match x with
    | .slice p n cap ex=>match sizeOf? E e with
      |some z=>match mx with
       |none=>match hiOf hi n cap with
        |some h=>match loOf lo h with
         |some l=>match Nat.beq cap l with
          |true=>match ex with
           |0=>some (.slice p (h-l) (cap-l) 0)
           |y+1=>match l with
            |0=>some (.slice p h cap (y+1))
            |_+1=>match p with
             |some _=>some .empty
             |none=>none
          |false=>match Nat.beq ex 0||Nat.beq ex z with
           |true=>some (.slice (sliceAtO p l z) (h-l) (cap-l) ex)
           |false=>none
         |none=>none
        |none=>none
       |some (.int _ m)=>match upto m cap with
        |some m=>match hi with
         |some (.int _ h)=>match upto h m with
          |some h=>match loOf lo h with
           |some l=>match Nat.beq m l with
            |true=>some (.slice p (h-l) (m-l) 0)
            |false=>some (.slice (sliceAtO p l z) (h-l) (m-l) 0)
           |none=>none
          |none=>none
         |_=>none
        |none=>none
       |some _=>none
      |none=>none
    | .empty=>match mx with
      |none=>match hiOf hi 0 0 with
       |some h=>match loOf lo h with
        |some _=>match sizeOf? E e with
         |some _=>some .empty
         |none=>none
        |none=>none
       |none=>none
      |some _=>none
    |_=>none
  | .array n e=>match x with
    | .ptr (some p)=>match mx with
      |none=>match sizeOf? E e with
       |some z=>match hiOf hi n n with
        |some h=>match loOf lo h with
         |some l=>match Nat.beq n l with
          |true=>match Nat.ble n 16777216 with
           |true=>some (.slice (some p) (h-l) (n-l) 0)
           |false=>none
          |false=>match Nat.ble n 16777216 with
           |true=>some (.slice (some (p.1,p.2+l*z)) (h-l) (n-l) 0)
           |false=>none
         |none=>none
        |none=>none
       |none=>none
      |some _=>none
    |_=>none
  |_=>none
def bytesOf:List CV->Option (List UInt8)
 |[]=>some []
 | .int .u8 (.ofNat n)::r=>match Nat.blt n 256 with
   |true=>match bytesOf r with
    |some l=>some (UInt8.ofNat n::l)
    |none=>none
   |false=>none
 |_::_=>none
def oConvert (E:Env) (h:Heap) (a b:Option TyS) (x:CV):Option (CV×Heap):=
 match a with
 |some a=>match b with
  |some b=>match b.kind with
   | .int k=>match x with
     | .int _ n=>some (.int k (k.wrap n),h)
     |_=>none
   | .string=>match x with
     | .str s=>some (.str s,h)
     | .slice p n _ _=>match a.kind with
       | .slice e=>match kindAt E e with
         |some (.int .u8)=>match p with
          |none=>some (.str [],h)
          |some p=>match h.get p.1 with
           |some (.cells cs _)=>withH h (((cut cs p.2 n).bind bytesOf).map .str)
           |_=>none
         |_=>none
       |_=>none
     |_=>none
   |_=>none
  |none=>none
 |none=>none
def zeroV (E:Env) (t:TypeId):Option CV:=
 match E.ty t with
 |some s=>match s.agg with
  |true=>some (.agg s.zero)
  |false=>match s.zero with
   |[z]=>some z
   |_=>none
 |none=>none
def keyKind (k:TyK):Bool:=
 match k with
 | .string=>true
 | .int _=>true
 | .bool=>true
 |_=>false
def keyFs (E:Env) (cs:List CV):List (TypeId×Nat)->Bool
 |[]=>true
 |f::r=>match E.ty f.1 with
  |some s=>match keyKind s.kind with
   |true=>match part cs f.2 s.size s.agg with
    |some _=>keyFs E cs r
    |none=>false
   |false=>false
  |none=>false
def keyOk (E:Env) (t:TypeId) (k:CV):Bool:=
 match kindAt E t with
 |some (.struct fs)=>match k with
  | .agg cs=>keyFs E cs fs
  |_=>false
 |some k=>keyKind k
 |none=>false
def keySame (k y:CV):Bool:=
 match k with
 | .agg cs=>match List.all cs CV.flat with
   |true=>cvEq (.agg cs) y
   |false=>false
 |_=>true
def findKey (E:Env) (kt:TypeId) (k:CV):List ME->Nat->Option (Option (Nat×CV))
 |[],_=>some none
 |e::es,i=>match eqT E 20 kt k e.key with
  |some true=>match keySame k e.key with
   |true=>some (some (i,e.val))
   |false=>none
  |some false=>findKey E kt k es (i+1)
  |none=>none
def setME (es:List ME) (v:ME->ME) (i:Nat):List ME:=
 List.rec (λ_=>[]) (λe r ih i=>Nat.rec (v e::r) (λi _=>e::ih i) i) es i
def oMapUpd (E:Env) (s:Option TyS) (m k v:CV) (h:Heap):Option (CV×Heap):=
 match s with
 |some s=>match s.kind with
  | .map kt _=>match keyOk E kt k with
    |true=>match m with
     | .map (some r)=>match h.get r with
       |some (.map es clock)=>match findKey E kt k es 0 with
        |some (some p)=>some (.undef,h.put r (.map (setME es (λe=>⟨k,v,e.born⟩) p.1) clock))
        |some none=>some (.undef,h.put r (.map (es++[⟨k,v,clock⟩]) (clock+1)))
        |none=>none
       |_=>none
     |_=>none
    |false=>none
  |_=>none
 |none=>none
def mapEs (h:Heap) (x:CV):Option (List ME):=
 match x with
 | .map none=>some []
 | .map (some r)=>match h.get r with
   |some (.map es _)=>some es
   |_=>none
 |_=>none
def okTup (ok:Bool) (v:CV) (b:Bool):CV:=
 match ok with
 |true=> .tup [v,.bool b]
 |false=>v
def found (E:Env) (et:TypeId) (ok:Bool) (f:Option (Option (Nat×CV))):Option CV:=
 match f with
 |some (some p)=>some (okTup ok p.2 true)
 |some none=>(zeroV E et).map λz=>okTup ok z false
 |none=>none
def oLookup (E:Env) (s:Option TyS) (x i:CV) (ok:Bool) (h:Heap):Option CV:=
 match s with
 |some s=>match s.kind with
  | .map kt et=>match keyOk E kt i with
    |true=>match mapEs h x with
     |some es=>found E et ok (findKey E kt i es 0)
     |none=>none
    |false=>none
  |_=>none
 |none=>none
def oMapEntry (E:Env) (s:Option TyS) (m k:CV) (h:Heap):Option (CV×Heap):=
 match s with
 |some s=>match s.kind with
  | .map kt et=>match keyOk E kt k with
    |true=>match m with
     | .map (some r)=>match h.get r with
       |some (.map es clock)=>match findKey E kt k es 0 with
        |some (some p)=>match nth es p.1 with
         |some x=>some (.tup [p.2,.int .i64 (Int.ofNat x.born)],h.put r (.map (setME es (λe=>⟨k,e.val,e.born⟩) p.1) clock))
         |none=>none
        |some none=>match zeroV E et with
         |some z=>some (.tup [z,.int .i64 (Int.ofNat clock)],h.put r (.map (es++[⟨k,z,clock⟩]) (clock+1)))
         |none=>none
        |none=>none
       |_=>none
     |_=>none
    |false=>none
  |_=>none
 |none=>none
def findBorn (n:Int):List ME->Nat->Option Nat
 |[],_=>none
 |e::r,i=>match intEq (Int.ofNat e.born) n with
  |true=>some i
  |false=>findBorn n r (i+1)
def oEntryStore (m s v:CV) (h:Heap):Option (CV×Heap):=
 match m with
 | .map (some r)=>match h.get r with
   |some (.map es clock)=>match s with
    | .int _ n=>match findBorn n es 0 with
      |some i=>some (.undef,h.put r (.map (setME es (λe=>⟨e.key,v,e.born⟩) i) clock))
      |none=>none
    |_=>none
   |_=>none
 |_=>none
def oAssert (E:Env) (s:Option TyS) (x:CV) (a:TypeId) (ok:Bool) (h:Heap):Option (CV×Heap):=
 match s with
 |some s=>match s.kind with
  | .iface=>none
  |_=>match x with
   | .iface t v=>match Nat.beq t a with
     |true=>some (okTup ok v true,h)
     |false=>match ok with
      |true=>withH h ((zeroV E a).map λz=>okTup true z false)
      |false=>none
   | .nilIface=>match ok with
     |true=>withH h ((zeroV E a).map λz=>okTup true z false)
     |false=>none
   |_=>none
 |none=>none
def oMakeIface (s:Option TyS) (t:TypeId) (x:CV) (h:Heap):Option (CV×Heap):=
 match s with
 |some s=>match s.kind with
  | .iface=>none
  |_=>some (.iface t x,h)
 |none=>none
def oExtract (x:CV) (i:Nat):Option CV:=
 match x with
 | .tup vs=>nth vs i
 |_=>none
def isConst:Operand->Bool
 | .const _=>true
 |_=>false
def parts (ρ:Operand->CV) (l:List (Nat×Operand)):List (Nat×CV):=l.map λp=>(p.1,ρ p.2)
def opVal (E:Env) (o:Op) (ρ:Operand->CV) (h:Heap):Option (CV×Heap):=
 match o with
 | .move x=>some (ρ x,h)
 | .assign x=>some (ρ x,h)
 | .pick c a b=>oPick (ρ c) (ρ a) (ρ b) h
 | .alloc t=>newPtr h ((E.ty t).map (·.zero))
 | .box _ x=>newPtr h (ρ x).cells
 | .build t ps=>oBuild E (E.ty t) (parts ρ ps.toList) h
 | .buildSlice t n ps=>oBuildSlice E (E.ty t) n (parts ρ ps.toList) h
 | .load t a=>oLoad E t (ρ a) h
 | .store t a v=>oStore E t (ρ a) (ρ v) h
 | .nilCheck x=>oNil (ρ x) h
 | .binOp op t x y _=>withH h (binop E op t (isConst x||isConst y) (ρ x) (ρ y))
 | .unOp op _ x=>withH h (unop op (ρ x))
 | .convert s d x=>oConvert E h (E.ty s) (E.ty d) (ρ x)
 | .makeInterface t x=>oMakeIface (E.ty t) t (ρ x) h
 | .makeFunc (.func f) first caps=>some (.fn f (first.toList.map ρ) (caps.toList.map ρ),h)
 | .makeMap _ none=>some (.map (some h.next),h.new (.map [] 0))
 | .makeSlice t l c=>oMakeSlice E (E.ty t) (ρ l) (ρ c) h
 | .slice t x lo hi mx=>withH h (oSlice E (E.ty t) (ρ x) (lo.map ρ) (hi.map ρ) (mx.map ρ))
 | .fieldAddr t x f=>oFieldAddr E (fieldOf (E.ty t) f) (ρ x) h
 | .field t x f=>oField E (fieldOf (E.ty t) f) (ρ x) h
 | .indexAddr t x i=>oIndexAddr E (E.ty t) (ρ x) (ρ i) h
 | .index t x i=>oIndex E (E.ty t) (ρ x) (ρ i) h
 | .lookup t x i ok=>withH h (oLookup E (E.ty t) (ρ x) (ρ i) ok h)
 | .typeAssert x _ a ok=>oAssert E (E.ty a) (ρ x) a ok h
 | .extract x i=>withH h (oExtract (ρ x) i)
 | .mapUpdate t m k v=>oMapUpd E (E.ty t) (ρ m) (ρ k) (ρ v) h
 | .insert t m k v=>oMapUpd E (E.ty t) (ρ m) (ρ k) (ρ v) h
 | .mapEntry t m k=>oMapEntry E (E.ty t) (ρ m) (ρ k) h
 | .entryStore _ m s v=>oEntryStore (ρ m) (ρ s) (ρ v) h
 |_=>none
def lenV (h:Heap) (s:Option TyS) (x:CV):Option Nat:=
 match s with
 |some s=>match s.kind with
  | .string=>match x with
    | .str b=>some (len b)
    |_=>none
  | .slice _=>match x with
    | .slice _ n _ _=>some n
    | .empty=>some 0
    |_=>none
  | .array n _=>some n
  | .map _ _=>match x with
    | .map none=>some 0
    | .map (some r)=>match h.get r with
      |some (.map es _)=>some (len es)
      |_=>none
    |_=>none
  |_=>none
 |none=>none
def srcCells (h:Heap) (size n:Nat) (x:CV):Option (List CV):=
 match x with
 | .slice none _ _ _=>match n with
   |0=>some []
   |_+1=>none
 | .slice (some p) _ _ _=>match n with
   |0=>some []
   |_+1=>match h.get p.1 with
    |some (.cells cs _)=>cut cs p.2 (n*size)
    |_=>none
 | .empty=>match n with
   |0=>some []
   |_+1=>none
 | .str s=>match size with
   |1=>(takeN s n).map λl=>l.map λb=> .int .u8 b.toNat
   |_=>none
 |_=>none
def srcLen (x:CV):Option Nat:=
 match x with
 | .slice _ n _ _=>some n
 | .empty=>some 0
 | .str b=>some (len b)
 |_=>none
def growTo (h:Heap) (base:Option (Nat×Nat)) (ex z:Nat) (need:Nat) (cs:List CV):Option (CV×Heap):=
 match ex with
 |0=>some (.slice (some (h.next,0)) need need z,h.new (.cells cs false))
 |_+1=>match base with
  |some p=>match Nat.beq ex z with
   |true=>match h.get p.1 with
    |some (.cells _ false)=>some (.slice (some (h.next,0)) need need z,(h.del p.1).new (.cells cs false))
    |_=>none
   |false=>none
  |none=>none
def appendAt (h:Heap) (z bytes:Nat) (s:CV) (base:Option (Nat×Nat)) (n cap:Nat) (ex:Nat) (m:Nat) (new:List CV):Option (CV×Heap):=
 match Nat.ble (n+m) cap with
 |true=>match base with
  |none=>some (.slice none (n+m) cap ex,h)
  |some p=>match m with
   |0=>some (.slice base n cap ex,h)
   |_+1=>match putCells h p.1 (p.2+n*z) new with
    |some h'=>some (.slice base (n+m) cap ex,h')
    |none=>none
 |false=>match Nat.ble ((n+m)*bytes) 70368744177664 with
  |true=>match srcCells h z n s with
   |some old=>growTo h base ex z (n+m) (old++new)
   |none=>none
  |false=>none
def oAppend0 (h:Heap) (es:TyS) (s x:CV):Option (CV×Heap):=
 match s with
 | .slice none n cap ex=>match n with
   |0=>match cap with
    |0=>match ex with
     |0=>match x with
      | .int .i64 (.ofNat m)=>match m with
        |0=>none
        |m+1=>match Nat.ble (m+1) 1048576&&Nat.ble ((m+1)*es.bytes) 70368744177664 with
         |true=>some (.slice (some (h.next,0)) (m+1) (m+1) es.size,h.new (.cells (rep es.zero (m+1)) false))
         |false=>none
      |_=>none
     |_+1=>none
    |_+1=>none
   |_+1=>none
 |_=>none
def oAppend (E:Env) (h:Heap) (ts:Option TyS) (t2:Option TyS) (s x:CV):Option (CV×Heap):=
 match ts with
 |some ts=>match ts.kind with
  | .slice e=>match s with
    | .slice base n cap ex=>match E.ty e with
      |some es=>match Nat.beq es.size 0||Nat.beq es.bytes 0 with
       |true=>none
       |false=>match t2 with
        |some t2=>match t2.kind with
         | .int _=>oAppend0 h es s x
         |_=>match srcLen x with
          |some m=>match srcCells h es.size m x with
           |some new=>appendAt h es.size es.bytes s base n cap ex m new
           |none=>none
          |none=>none
        |none=>none
      |none=>none
    |_=>none
  |_=>none
 |none=>none
def oCopy (E:Env) (h:Heap) (ts:Option TyS) (d s:CV):Option (CV×Heap):=
 match ts with
 |some ts=>match ts.kind with
  | .slice e=>match d with
    | .slice base n _ _=>match E.ty e with
      |some es=>match srcLen s with
       |some m=>match Nat.min m n with
        |0=>some (.int .i64 0,h)
        |k+1=>match srcCells h es.size (k+1) s with
         |some cs=>match base with
          |none=>none
          |some p=>match putCells h p.1 p.2 cs with
           |some h'=>some (.int .i64 (Int.ofNat (k+1)),h')
           |none=>none
         |none=>none
       |none=>none
      |none=>none
    | .empty=>match E.ty e with
      |some _=>match srcLen s with
       |some _=>some (.int .i64 0,h)
       |none=>none
      |none=>none
    |_=>none
  |_=>none
 |none=>none
def oClear (E:Env) (h:Heap) (ts:Option TyS) (x:CV):Option (CV×Heap):=
 match ts with
 |some ts=>match ts.kind with
  | .slice e=>match x with
    | .slice none _ _ _=>some (.tup [],h)
    | .empty=>some (.tup [],h)
    | .slice (some p) n _ _=>match n with
      |0=>some (.tup [],h)
      |k+1=>match E.ty e with
       |some es=>match putCells h p.1 p.2 (rep es.zero (k+1))with
        |some h'=>some (.tup [],h')
        |none=>none
       |none=>none
    |_=>none
  |_=>none
 |none=>none
def eraseAt:List ME->Nat->List ME
 |[],_=>[]
 |e::r,n=>match n with
  |0=>r
  |k+1=>e::eraseAt r k
def oDelete (E:Env) (h:Heap) (s:Option TyS) (m k:CV):Option (CV×Heap):=
 match s with
 |some s=>match s.kind with
  | .map kt _=>match keyOk E kt k with
    |true=>match m with
     | .map none=>some (.tup [],h)
     | .map (some r)=>match h.get r with
       |some (.map es clock)=>match findKey E kt k es 0 with
        |some (some p)=>some (.tup [],h.put r (.map (eraseAt es p.1) clock))
        |some none=>some (.tup [],h.put r (.map es clock))
        |none=>none
       |_=>none
     |_=>none
    |false=>none
  |_=>none
 |none=>none
def max2 (isMax:Bool) (x y:CV):Option CV:=
 match x with
 | .int k a=>match y with
   | .int _ b=>some (.int k (match isMax with
     |true=>match intLe b a with
      |true=>a
      |false=>b
     |false=>match intLe a b with
      |true=>a
      |false=>b))
   |_=>none
 |_=>none
def fold2 (f:CV->CV->Option CV):CV->List CV->Option CV
 |x,[]=>some x
 |x,y::r=>match f x y with
  |some z=>fold2 f z r
  |none=>none
def capV (s:Option TyS) (x:CV):Option Nat:=
 match s with
 |some s=>match s.kind with
  | .slice _=>match x with
    | .slice _ _ c ex=>match ex with
      |0=>some c
      |_+1=>none
    |_=>none
  |_=>none
 |none=>none
def lenR (n:Option Nat):Option CV:=
 match n with
 |some n=>some (.int .i64 (Int.ofNat n))
 |none=>none
def builtinV (E:Env) (h:Heap) (b:Builtin) (tys:List TypeId) (args:List CV):Option (CV×Heap):=
 match b with
 | .len=>match tys with
   |t::_=>match args with
    |[x]=>withH h (lenR (lenV h (E.ty t) x))
    |_=>none
   |_=>none
 | .append=>match tys with
   |[t,t2]=>match args with
    |[s,x]=>oAppend E h (E.ty t) (E.ty t2) s x
    |_=>none
   |_=>none
 | .copy=>match tys with
   |t::_=>match args with
    |[d,s]=>oCopy E h (E.ty t) d s
    |_=>none
   |_=>none
 | .max=>match args with
   |x::r=>withH h (fold2 (max2 true) x r)
   |_=>none
 | .min=>match args with
   |x::r=>withH h (fold2 (max2 false) x r)
   |_=>none
 | .cap=>match tys with
   |t::_=>match args with
    |[x]=>withH h (lenR (capV (E.ty t) x))
    |_=>none
   |_=>none
 | .clear=>match tys with
   |t::_=>match args with
    |[x]=>oClear E h (E.ty t) x
    |_=>none
   |_=>none
 | .delete=>match tys with
   |t::_=>match args with
    |[m,k]=>oDelete E h (E.ty t) m k
    |_=>none
   |_=>none
 |_=>none
end Go.CM
