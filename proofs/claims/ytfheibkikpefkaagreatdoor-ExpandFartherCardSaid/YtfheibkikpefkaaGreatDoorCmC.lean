/- The plain machine's walk. No condition. -/
import Derived.Test.YtfheibkikpefkaaGreatDoorCmB
set_option linter.unusedVariables false
set_option linter.unusedSimpArgs false
noncomputable section
namespace Go.CM
inductive Ex where
 |normal
 |exit (id:Nat)
 |goto (l:Nat)
 |ret
inductive R where
 |code (e:Ex) (tmps:Tm) (h:Heap)
 |val (v:CV) (h:Heap)
 |pan (v:CV) (h:Heap)
 |stop
inductive Rec where
 |op (i:Nat) (fp:List Nat) (wr:Bool) (lo hi:Nat)
 |call (i:Nat) (d d':Heap)
 |opw (i:Nat) (fp ws:List Nat) (lo hi:Nat)
def Bits:Type:=Nat
def Bits.nil:Bits:=(0:Nat)
def bit (j:Nat) (a:Bits):Bool:=Nat.beq (Nat.land (Nat.shiftRight a j) 1) 1
def bitsOr (a b:Bits):Bits:=Nat.lor a b
def bitsOne (j:Nat):Bits:=Nat.shiftLeft 1 j
instance:Membership Nat Bits:=⟨λa j=>bit j a=true⟩
inductive Task where
 |code (c:Code)
 |ops (all rest:List Oper)
 |draw (bs:List Bits) (all rest:List Oper) (i:Nat) (recs:List Rec)
 |call (f:CV) (args:List CV)
def putTmp (tmps:Tm) (d:Option Nat) (v:CV):Tm:=
 match d with
 |some d=>tmps.set d (some v)
 |none=>tmps
def putArgs:Nat->List CV->Tm->Tm
 |_,[],t=>t
 |i,v::r,t=>putArgs (i+1) r (t.set i (some v))
def yieldOf (all:List Oper) (tmps:Tm) (j:Nat) (want:Bool):Option Bool:=
 match nth all j with
 |some o=>match o.dst with
  |some d=>match tmps.get d with
   |some (.bool b)=>some (b==want)
   |some (.tup l)=>match l with
    |[]=>some false
    |_::_=>none
   |_=>none
  |none=>none
 |none=>none
def guardOn (all:List Oper) (tmps:Tm) (o:Oper):Option Bool:=
 match o.guard with
 |none=>some true
 |some g=>yieldOf all tmps g.1 g.2
def resultVals (E:Env) (h:Heap) (tmps:Tm):List ResultVar->Option (List CV)
 |[]=>some []
 | .tmp t::r=>match resultVals E h tmps r with
   |some vs=>some ((tmps.get t).getD .undef::vs)
   |none=>none
 | .cell a t::r=>match tmps.get a with
   |some (.ptr (some p))=>match load E h t p.1 p.2 with
    |some v=>match resultVals E h tmps r with
     |some vs=>some (v::vs)
     |none=>none
    |none=>none
   |_=>none
def packR (vs:List CV):CV:=
 match vs with
 |[v]=>v
 |vs=> .tup vs
def findMeth (name:String):List (String×Option (FuncId×Bool))->Option (FuncId×Bool)
 |[]=>none
 |p::l=>match p.1==name with
  |true=>p.2
  |false=>findMeth name l
def methOf (E:Env) (name:String) (x:CV):Option (FuncId×CV):=
 match x with
 | .iface t v=>match E.ty t with
   |some s=>match findMeth name s.meths with
    |some m=>match s.kind with
     | .pointer _=>match m.2 with
       |true=>some (m.1,v)
       |false=>none
     |_=>match m.2 with
      |true=>none
      |false=>some (m.1,v)
    |none=>none
   |none=>none
 |_=>none
abbrev Run:=Task->Tm->Heap->R
def kSeq (run:Run) (b:Code) (r:R):R:=match r with
 | .code e tmps h=>match e with
   | .normal=>run (.code b) tmps h
   |_=>r
 |_=>r
def kCond (run:Run) (a b:Code) (tmps:Tm) (h:Heap) (c:CV):R:=match c with
 | .bool c=>match c with
   |true=>run (.code a) tmps h
   |false=>run (.code b) tmps h
 |_=> .stop
def kBlock (id:Nat) (r:R):R:=match r with
 | .code e tmps h=>match e with
   | .exit i=>match Nat.beq i id with
     |true=> .code .normal tmps h
     |false=>r
   |_=>r
 |_=>r
def kScope (r:R):R:=match r with
 | .code e _ _=>match e with
   | .goto _=> .stop
   |_=>r
 |_=>r
def endBy (c:Option Code) (tmps:Tm) (h:Heap):R:=match c with
 |none=> .code .normal tmps h
 |some c=>match c with
  | .ret=> .code .ret tmps h
  | .exit id=> .code (.exit id) tmps h
  | .goto l=> .code (.goto l) tmps h
  |_=> .stop
def kRange (i:Nat) (tmps:Tm) (r:R):R:=match r with
 | .val _ h=>match h.get i with
   |some (.loop _ _ _ _ st pend)=>match Nat.beq st 1 with
    |true=> .stop
    |false=>endBy pend tmps (h.del i)
   |_=> .stop
 | .pan v h=> .pan v (h.del i)
 |_=> .stop
def sRange (run:Run) (tmps:Tm) (h:Heap) (i:Nat) (f:CV):R:=match f with
 | .fn id first caps=>kRange i tmps (run (.call (.fn id first caps) [.yield i]) .leaf h)
 |_=> .stop
def setPs:List Nat->List CV->Tm->Option (Tm)
 |[],[],t=>some t
 |p::ps,v::vs,t=>setPs ps vs (t.set p (some v))
 |_,_,_=>none
def kRoundEnd (i:Nat) (h:Heap) (st:Nat) (pend:Option Code) (b:Bool):R:=match h.get i with
 |some (.loop tm ps asg body _ _)=> .val (.bool b) (h.put i (.loop tm ps asg body st pend))
 |_=> .stop
def kRound2 (i:Nat) (r:R):R:=match r with
 | .code e _ h=>match e with
   | .normal=>kRoundEnd i h 0 none true
   | .ret=>kRoundEnd i h 2 (some .ret) false
   | .exit id=>kRoundEnd i h 2 (some (.exit id)) false
   | .goto l=>kRoundEnd i h 2 (some (.goto l)) false
 |_=> .stop
def kRound1 (run:Run) (i:Nat) (body:Code) (r:R):R:=match r with
 | .code e t h=>match e with
   | .normal=>match h.get i with
     |some (.loop tm ps asg bd st pend)=>match Nat.beq st 0 with
      |true=>kRound2 i (run (.code body) t (h.put i (.loop tm ps asg bd 1 pend)))
      |false=> .stop
     |_=> .stop
   |_=> .stop
 |_=> .stop
def sRound (run:Run) (i:Nat) (args:List CV) (h:Heap):R:=match h.get i with
 |some (.loop tm ps asg body _ _)=>match setPs ps args tm with
  |some t=>kRound1 run i body (run (.code asg) t h)
  |none=> .stop
 |_=> .stop
def aheadOf (bs:List Bits):List Edge->Bits
 |[]=>Bits.nil
 |e::r=>match Region.binds .any e with
  |true=>bitsOr (bitsOne e.on) (bitsOr ((nth bs e.on).getD Bits.nil) (aheadOf bs r))
  |false=>aheadOf bs r
def aheads:List Oper->List Bits->List Bits
 |[],bs=>bs
 |o::r,bs=>aheads r (bs++[aheadOf bs o.after.toList])
def edgesBack:Nat->List Oper->Bool
 |_,[]=>true
 |i,o::r=>(o.after.toList.all λe=>match Region.binds .any e with|true=>Nat.blt e.on i|false=>true)&&edgesBack (i+1) r
def sCode (E:Env) (run:Run) (c:Code) (tmps:Tm) (h:Heap):R:=
    match c with
    | .skip=> .code .normal tmps h
    | .label _=> .code .normal tmps h
    | .ret=> .code .ret tmps h
    | .exit id=> .code (.exit id) tmps h
    | .goto l=> .code (.goto l) tmps h
    | .region _ ops d=>match d with
      |false=>run (.ops ops.toList ops.toList) tmps h
      |true=>run (.draw (aheads ops.toList []) ops.toList ops.toList 0 []) tmps h
    | .seq a b=>kSeq run b (run (.code a) tmps h)
    | .cond c a b=>kCond run a b tmps h (cvOf E.globs tmps c)
    | .block id b=>kBlock id (run (.code b) tmps h)
    | .scope b=>kScope (run (.code b) tmps h)
    | .loop b=>kSeq run (.loop b) (run (.code b) tmps h)
    | .rangeFunc f ps asg body=>sRange run tmps (h.new (.loop tmps ps.toList asg body 0 none)) h.next (cvOf E.globs tmps f)
    |_=> .stop
def nextV (run:Run) (all r:List Oper) (dst:Option Nat) (tmps:Tm) (x:Option (CV×Heap)):R:=match x with
 |some p=>run (.ops all r) (putTmp tmps dst p.1) p.2
 |none=> .stop
def nextR (run:Run) (all r:List Oper) (dst:Option Nat) (tmps:Tm) (x:R):R:=match x with
 | .val v h=>run (.ops all r) (putTmp tmps dst v) h
 | .pan v h=> .pan v h
 |_=> .stop
def sInvoke (run:Run) (args:List CV) (h:Heap) (x:Option (FuncId×CV)):R:=match x with
 |some p=>run (.call (.fn p.1 [] []) (p.2::args)) .leaf h
 |none=> .stop
def sCallee (E:Env) (run:Run) (tmps:Tm) (h:Heap) (args:List CV) (callee:Callee):R:=
 match callee with
 | .value f=>run (.call (cvOf E.globs tmps f) args) .leaf h
 | .invoke x name=>sInvoke run args h (methOf E name (cvOf E.globs tmps x))
 |_=> .stop
def isBuiltin:Callee->Option Builtin
 | .builtin b=>some b
 |_=>none
def sOp (E:Env) (run:Run) (all r:List Oper) (o:Oper) (tmps:Tm) (h:Heap):R:=
 match o.op with
 | .call c=>match isBuiltin c.callee with
   |some b=>nextV run all r o.dst tmps (builtinV E h b c.argTypes.toList (c.args.toList.map (cvOf E.globs tmps)))
   |none=>nextR run all r o.dst tmps (sCallee E run tmps h (c.args.toList.map (cvOf E.globs tmps)) c.callee)
 | .panic x=>match cvOf E.globs tmps x with
   | .iface t v=> .pan (.iface t v) h
   |_=> .stop
 |_=>nextV run all r o.dst tmps (opVal E o.op (cvOf E.globs tmps) h)
def sOps (E:Env) (run:Run) (all rest:List Oper) (tmps:Tm) (h:Heap):R:=
    match rest with
    |[]=> .code .normal tmps h
    |o::r=>match guardOn all tmps o with
     |some true=>sOp E run all r o tmps h
     |some false=>run (.ops all r) (putTmp tmps o.dst (.tup [])) h
     |none=> .stop
def idOf (x:CV):List Nat:=match x with
 | .ptr (some p)=>[p.1]
 | .slice (some p) _ _ _=>[p.1]
 | .map (some r)=>[r]
 |_=>[]
def mapIds (l:List CV):List Nat:=match l with
 |[.map (some r)]=>[r]
 |_=>[]
def fpOf (o:Op) (ρ:Operand->CV):List Nat:=match o with
 | .load _ a=>idOf (ρ a)
 | .store _ a _=>idOf (ρ a)
 | .insert _ m _ _=>idOf (ρ m)
 | .mapUpdate _ m _ _=>idOf (ρ m)
 | .mapEntry _ m _=>idOf (ρ m)
 | .entryStore _ m _ _=>idOf (ρ m)
 | .lookup _ m _ _=>idOf (ρ m)
 | .convert _ _ x=>idOf (ρ x)
 | .call c=>match c.callee with
   | .builtin .len=>mapIds (c.args.toList.map ρ)
   |_=>(c.args.toList.map λx=>idOf (ρ x)).flatten
 |_=>[]
def wrOf (o:Op):Bool:=match o with
 | .store .. =>true
 | .insert .. =>true
 | .mapUpdate .. =>true
 | .mapEntry .. =>true
 | .entryStore .. =>true
 | .call c=>match c.callee with
   | .builtin .append=>true
   | .builtin .copy=>true
   | .builtin .clear=>true
   | .builtin .delete=>true
   |_=>false
 |_=>false
def only(h:Heap):List Nat->Heap
 |[]=>⟨.leaf,h.next,none⟩
 |i::r=>let d:=only h r;⟨d.t.set i (h.get i),h.next,none⟩
def without (h:Heap):List Nat->Heap
 |[]=>h
 |i::r=>(without h r).del i
def back (h d:Heap):List Nat->Heap
 |[]=>⟨h.t,d.next,none⟩
 |i::r=>let x:=back h d r;⟨x.t.set i (d.get i),d.next,none⟩
def span (lo:Nat) (n:Nat):List Nat:=Nat.rec [] (λk ih=>(lo+k)::ih) n
def mem (i:Nat):List Nat->Bool
 |[]=>false
 |j::r=>match Nat.beq i j with
  |true=>true
  |false=>mem i r
def within (i lo hi:Nat):Bool:=Nat.ble lo i&&Nat.blt i hi
def all1 (l:List Nat) (p:Nat->Bool):Bool:=List.rec true (λi _ ih=>match p i with|true=>ih|false=>false) l
def mesEq:List ME->List ME->Bool
 |[],[]=>true
 |a::x,b::y=>cvEq a.key b.key&&cvEq a.val b.val&&Nat.beq a.born b.born&&mesEq x y
 |_,_=>false
def blkEq:Option Blk->Option Blk->Bool
 |none,none=>true
 |some (.cells a x),some (.cells b y)=>cvsEq a b&&x==y
 |some (.map a c),some (.map b d)=>mesEq a b&&Nat.beq c d
 |some (.strIter a p),some (.strIter b q)=>bytesEq a b&&Nat.beq p q
 |_,_=>false
def isNo (b:Option Blk):Bool:=match b with
 |none=>true
 |some _=>false
def okPair (fp:List Nat) (wr:Bool) (news:List Nat) (r:Rec):Bool:=match r with
 | .op _ fp' wr' lo hi=>
   match(all1 fp λk=>match within k lo hi with
    |true=>false
    |false=>match wr||wr' with
     |true=> !mem k fp'
     |false=>true)with
   |true=>all1 news λk=> !mem k fp'
   |false=>false
 | .call _ d d'=>
   match(all1 fp λk=>match blkEq (d.get k) (d'.get k)with
    |true=>match wr with
     |true=>isNo (d.get k)
     |false=>true
    |false=>false)with
   |true=>all1 news λk=>match isNo (d.get k)with
    |true=>isNo (d'.get k)
    |false=>false
   |false=>false
 | .opw _ fp' ws' lo hi=>
   match(all1 fp λk=>match within k lo hi||mem k ws' with
    |true=>false
    |false=>match wr with
     |true=> !mem k fp'
     |false=>true)with
   |true=>all1 news λk=> !mem k fp'
   |false=>false
def recIdx:Rec->Nat
 | .op i _ _ _ _=>i
 | .call i _ _=>i
 | .opw i _ _ _ _=>i
def okPairs (ahead:Bits) (fp:List Nat) (wr:Bool) (news:List Nat):List Rec->Bool
 |[]=>true
 |r::rs=>match okPair fp wr news r with
  |true=>okPairs ahead fp wr news rs
  |false=>match bit (recIdx r) ahead with
   |true=>okPairs ahead fp wr news rs
   |false=>false
def hides (ahead:Bits):List Rec->Option (List Nat)
 |[]=>some []
 |r::rs=>match hides ahead rs with
  |none=>none
  |some l=>match bit (recIdx r) ahead with
   |true=>some l
   |false=>match r with
    | .op _ fp wr lo hi=>some (span lo (hi-lo)++(match wr with|true=>fp|false=>[])++l)
    | .call _ _ _=>none
    | .opw _ _ ws lo hi=>some (span lo (hi-lo)++ws++l)
def looks (ahead:Bits) (d d':Heap):List Rec->Bool
 |[]=>true
 |r::rs=>match bit (recIdx r) ahead with
  |true=>looks ahead d d' rs
  |false=>match r with
   | .op _ fp _ _ _=>(all1 fp λk=>blkEq (d.get k) (d'.get k))&&looks ahead d d' rs
   | .call _ _ _=>false
   | .opw _ fp _ _ _=>(all1 fp λk=>blkEq (d.get k) (d'.get k))&&looks ahead d d' rs
def isNil {α:Type}:List α->Bool
 |[]=>true
 |_::_=>false
def dNext (run:Run) (bs:List Bits) (all r:List Oper) (i:Nat) (recs:List Rec) (dst:Option Nat) (tmps:Tm) (h:Heap) (fp:List Nat) (wr:Bool) (x:Option (CV×Heap)):R:=match x with
 |some p=>match isNil fp&&Nat.beq p.2.next h.next with
  |true=>run (.draw bs all r (i+1) recs) (putTmp tmps dst p.1) h
  |false=>match okPairs ((nth bs i).getD Bits.nil) fp wr (span h.next (p.2.next-h.next)) recs with
   |true=>run (.draw bs all r (i+1) (.op i fp wr h.next p.2.next::recs)) (putTmp tmps dst p.1) (back h p.2 (fp++span h.next (p.2.next-h.next)))
   |false=> .stop
 |none=> .stop
def apWs:List CV->List Nat
 |[]=>[]
 |s::_=>idOf s
def isApp:Builtin->Bool
 | .append=>true
 |_=>false
def dNextW (run:Run) (bs:List Bits) (all r:List Oper) (i:Nat) (recs:List Rec) (dst:Option Nat) (tmps:Tm) (h:Heap) (fp ws:List Nat) (x:Option (CV×Heap)):R:=match x with
 |some p=>match isNil fp&&Nat.beq p.2.next h.next with
  |true=>run (.draw bs all r (i+1) recs) (putTmp tmps dst p.1) h
  |false=>match okPairs ((nth bs i).getD Bits.nil) fp false (span h.next (p.2.next-h.next)) recs&&okPairs ((nth bs i).getD Bits.nil) ws true (span h.next (p.2.next-h.next)) recs with
   |true=>run (.draw bs all r (i+1) (.opw i fp ws h.next p.2.next::recs)) (putTmp tmps dst p.1) (back h p.2 (fp++span h.next (p.2.next-h.next)))
   |false=> .stop
 |none=> .stop
def dCall (run:Run) (bs:List Bits) (all r:List Oper) (i:Nat) (recs:List Rec) (dst:Option Nat) (tmps:Tm) (h d:Heap) (hid:List Nat) (x:R):R:=match x with
 | .val v d'=>match Nat.ble h.next d'.next&&(looks ((nth bs i).getD Bits.nil) d d' recs&&all1 hid λk=>isNo (d'.get k))with
   |true=>run (.draw bs all r (i+1) (.call i d d'::recs)) (putTmp tmps dst v) (back d' ⟨h.t,d'.next,none⟩ hid)
   |false=> .stop
 |_=> .stop
def dHid (E:Env) (run:Run) (bs:List Bits) (all r:List Oper) (o:Oper) (c:Call) (i:Nat) (recs:List Rec) (tmps:Tm) (h:Heap) (hid:Option (List Nat)):R:=match hid with
 |some hid=>dCall run bs all r i recs o.dst tmps h (without h hid) hid (sCallee E run tmps (without h hid) (c.args.toList.map (cvOf E.globs tmps)) c.callee)
 |none=> .stop
def dOp (E:Env) (run:Run) (bs:List Bits) (all r:List Oper) (o:Oper) (i:Nat) (recs:List Rec) (tmps:Tm) (h:Heap):R:=
 match o.op with
 | .call c=>match isBuiltin c.callee with
   |some b=>match isApp b with
    |true=>dNextW run bs all r i recs o.dst tmps h (fpOf o.op (cvOf E.globs tmps)) (apWs (c.args.toList.map (cvOf E.globs tmps))) (builtinV E (only h (fpOf o.op (cvOf E.globs tmps))) b c.argTypes.toList (c.args.toList.map (cvOf E.globs tmps)))
    |false=>dNext run bs all r i recs o.dst tmps h (fpOf o.op (cvOf E.globs tmps)) (wrOf o.op) (builtinV E (only h (fpOf o.op (cvOf E.globs tmps))) b c.argTypes.toList (c.args.toList.map (cvOf E.globs tmps)))
   |none=>dHid E run bs all r o c i recs tmps h (hides ((nth bs i).getD Bits.nil) recs)
 |_=>dNext run bs all r i recs o.dst tmps h (fpOf o.op (cvOf E.globs tmps)) (wrOf o.op) (opVal E o.op (cvOf E.globs tmps) (only h (fpOf o.op (cvOf E.globs tmps))))
def sDraw (E:Env) (run:Run) (bs:List Bits) (all rest:List Oper) (i:Nat) (recs:List Rec) (tmps:Tm) (h:Heap):R:=
    match rest with
    |[]=> .code .normal tmps h
    |o::r=>match guardOn all tmps o with
     |some true=>dOp E run bs all r o i recs tmps h
     |some false=>run (.draw bs all r (i+1) recs) (putTmp tmps o.dst (.tup [])) h
     |none=> .stop
def kBody (E:Env) (rs:List ResultVar) (r:R):R:=match r with
 | .code e tmps h=>match e with
   | .normal=>match resultVals E h tmps rs with
     |some vs=> .val (packR vs) h
     |none=> .stop
   | .ret=>match resultVals E h tmps rs with
     |some vs=> .val (packR vs) h
     |none=> .stop
   |_=> .stop
 | .pan v h=> .pan v h
 |_=> .stop
def sBody (E:Env) (run:Run) (args:List CV) (h:Heap) (f:Option FnS):R:=match f with
     |some f=>match f.body with
      |some c=>match Nat.ble (len args) f.ntmps with
       |true=>kBody E f.results (run (.code c) (putArgs 0 args .leaf) h)
       |false=> .stop
      |none=> .stop
     |none=> .stop
def CV.noId:CV->Bool
 | .bool _=>true
 | .int _ _=>true
 | .str _=>true
 | .ptr none=>true
 | .slice none _ _ _=>true
 | .empty=>true
 | .map none=>true
 | .nilFunc=>true
 | .nilIface=>true
 |_=>false
def mtNew (a:Nat) (σ:List Nat) (b:Bool):Option (List Nat):=match b with
 |true=>some (σ++[a])
 |false=>none
def mtOld (σ:List Nat) (b:Bool):Option (List Nat):=match b with
 |true=>some σ
 |false=>none
def mtId (g:Nat) (σ:List Nat) (i a:Nat):Option (List Nat):=match Nat.blt i g with
 |true=>mtOld σ (Nat.beq i a)
 |false=>match nth σ (i-g)with
  |some b=>mtOld σ (Nat.beq a b)
  |none=>mtNew a σ (Nat.beq (i-g) (len σ)&&(!mem a σ&&Nat.ble g a))
def mt1 (g:Nat) (σ:List Nat) (c a:CV):Option (List Nat):=match c with
 | .ptr (some p)=>match a with
   | .ptr (some q)=>match Nat.beq p.2 q.2 with
     |true=>mtId g σ p.1 q.1
     |false=>none
   |_=>none
 | .slice (some p) n cap x=>match a with
   | .slice (some q) n' cap' x'=>match Nat.beq p.2 q.2&&(Nat.beq n n'&&(Nat.beq cap cap'&&Nat.beq x x'))with
     |true=>mtId g σ p.1 q.1
     |false=>none
   |_=>none
 |_=>match c.noId with
  |true=>mtOld σ (cvEq c a)
  |false=>none
def mts (g:Nat):List CV->List CV->List Nat->Option (List Nat)
 |[],[],σ=>some σ
 |c::cs,a::as,σ=>match mt1 g σ c a with
  |some σ'=>mts g cs as σ'
  |none=>none
 |_,_,_=>none
def mtA (g:Nat) (σ:List Nat) (c a:CV):Option (List Nat):=match c with
 | .agg cs=>match a with
   | .agg as=>mts g cs as σ
   |_=>none
 |_=>mt1 g σ c a
def mtAs (g:Nat):List CV->List CV->List Nat->Option (List Nat)
 |[],[],σ=>some σ
 |c::cs,a::as,σ=>match mtA g σ c a with
  |some σ'=>mtAs g cs as σ'
  |none=>none
 |_,_,_=>none
def mtB (h:Heap) (g:Nat):List (List CV)->Nat->List Nat->Option (List Nat)
 |[],_,σ=>some σ
 |b::r,i,σ=>match nth σ i with
  |some a=>match h.get a with
   |some (.cells cs _)=>match mts g b cs σ with
    |some σ'=>mtB h g r (i+1) σ'
    |none=>none
   |_=>none
  |none=>none
def mtE (h:Heap) (g:Nat) (e:KE) (vs:List CV):Option (List Nat):=match mtAs g e.args vs []with
 |some σ=>match mtB h g e.blks 0 σ with
  |some σ'=>mtOld σ' (Nat.ble (len σ') (len e.blks))
  |none=>none
 |none=>none
def renId (g n0:Nat) (σ:List Nat) (base i:Nat):Option Nat:=match Nat.blt i g with
 |true=>some i
 |false=>match nth σ (i-g)with
  |some a=>some a
  |none=>match Nat.ble (g+n0) i with
   |true=>some (base+(i-(g+n0)))
   |false=>none
def ren1 (R:Nat->Option Nat) (c:CV):Option CV:=match c with
 | .ptr (some p)=>match R p.1 with
   |some a=>some (.ptr (some (a,p.2)))
   |none=>none
 | .slice (some p) n cap x=>match R p.1 with
   |some a=>some (.slice (some (a,p.2)) n cap x)
   |none=>none
 |_=>match c.noId with
  |true=>some c
  |false=>none
def rens (R:Nat->Option Nat):List CV->Option (List CV)
 |[]=>some []
 |c::cs=>match ren1 R c with
  |some d=>match rens R cs with
   |some ds=>some (d::ds)
   |none=>none
  |none=>none
def renA (R:Nat->Option Nat) (c:CV):Option CV:=match c with
 | .agg cs=>match rens R cs with
   |some ds=>some (.agg ds)
   |none=>none
 |_=>ren1 R c
def renAs (R:Nat->Option Nat):List CV->Option (List CV)
 |[]=>some []
 |c::cs=>match renA R c with
  |some d=>match renAs R cs with
   |some ds=>some (d::ds)
   |none=>none
  |none=>none
def renT (R:Nat->Option Nat) (c:CV):Option CV:=match c with
 | .tup cs=>match renAs R cs with
   |some ds=>some (.tup ds)
   |none=>none
 |_=>renA R c
def renB (R:Nat->Option Nat):List (List CV)->Option (List (List CV))
 |[]=>some []
 |b::bs=>match rens R b with
  |some d=>match renB R bs with
   |some ds=>some (d::ds)
   |none=>none
  |none=>none
def kGive (R:Nat->Option Nat) (e:KE):Option (CV×List (List CV)):=match renT R e.res with
 |some v=>match renB R e.news with
  |some bs=>some (v,bs)
  |none=>none
 |none=>none
def kAdd:Heap->List (List CV)->Heap
 |h,[]=>h
 |h,b::r=>kAdd (h.new (.cells b false)) r
def kfind (h:Heap) (g f:Nat) (vs:List CV):List KE->Option (CV×List (List CV))
 |[]=>none
 |e::r=>match Nat.beq e.f f with
  |true=>match mtE h g e vs with
   |some σ=>match kGive (renId g (len e.blks) σ h.next) e with
    |some p=>some p
    |none=>kfind h g f vs r
   |none=>kfind h g f vs r
  |false=>kfind h g f vs r
def rowIs (cs:List CV) (b:Option Blk):Bool:=match b with
 |some (.cells l true)=>cvsEq l cs
 |_=>false
def rowsHold (h:Heap):List (Nat×List CV)->Bool
 |[]=>true
 |r::rs=>match rowIs r.2 (h.get r.1)with
  |true=>rowsHold h rs
  |false=>false
def kKnown (p:CV×List (List CV)) (h:Heap) (b:Bool):R:=match b with
 |true=> .val p.1 (kAdd h p.2)
 |false=> .stop
def sFn (E:Env) (run:Run) (vs:List CV) (h:Heap) (id:Nat) (k:Option (CV×List (List CV))):R:=match k with
 |some v=>kKnown v h (rowsHold h E.rows)
 |none=>sBody E run vs h (E.fn id)
def sCall (E:Env) (run:Run) (args:List CV) (h:Heap) (f:CV):R:=match f with
    | .fn id first caps=>sFn E run (first++args++caps) h id (kfind h E.globs id (first++args++caps) E.known)
    | .yield i=>sRound run i args h
    |_=> .stop
def stepR (E:Env) (run:Run) (t:Task) (tmps:Tm) (h:Heap):R:=
 match t with
 | .code c=>sCode E run c tmps h
 | .ops all rest=>sOps E run all rest tmps h
 | .draw bs all rest i recs=>sDraw E run bs all rest i recs tmps h
 | .call f args=>sCall E run args h f
def run (E:Env) (n:Nat):Run:=Nat.rec (λ_ _ _=> .stop) (λ_ ih=>stepR E ih) n
def dstOk (n:Nat) (o:Oper):Bool:=match o.dst with
 |some d=>Nat.blt d n
 |none=>true
def allOk (p:Oper->Bool) (l:List Oper):Bool:=List.rec true (λo _ ih=>match p o with|true=>ih|false=>false) l
def tmpsOf:List Operand->List Nat
 |[]=>[]
 | .tmp t::r=>t::tmpsOf r
 |_::r=>tmpsOf r
def looksAt (all:List Oper) (o:Oper):List Nat:=
 tmpsOf o.op.operands.toList++(match o.guard with
  |some g=>match nth all g.1 with
   |some x=>x.dst.toList
   |none=>[]
  |none=>[])
def noMem (d:Option Nat) (l:List Nat):Bool:=match d with
 |some d=> !mem d l
 |none=>true
def neDst (a b:Option Nat):Bool:=match a with
 |some d=>match b with
  |some e=> !Nat.beq d e
  |none=>true
 |none=>true
def tmpPair (lx ly:List Nat) (x y:Oper):Bool:=noMem x.dst ly&&noMem y.dst lx&&neDst x.dst y.dst
def tmpPairs (all:List Oper) (ahead:Bits) (ly:List Nat) (y:Oper):Nat->Nat->List Oper->Bool
 |_,0,_=>true
 |_,_+1,[]=>true
 |j,n+1,x::r=>match bit j ahead with
  |true=>tmpPairs all ahead ly y (j+1) n r
  |false=>match tmpPair (looksAt all x) ly x y with
   |true=>tmpPairs all ahead ly y (j+1) n r
   |false=>false
def tmpsOk (all:List Oper) (bs:List Bits):Nat->List Oper->Bool
 |_,[]=>true
 |i,y::r=>match tmpPairs all ((nth bs i).getD Bits.nil) (looksAt all y) y 0 i all with
  |true=>tmpsOk all bs (i+1) r
  |false=>false
def drawOk (l:List Oper):Bool:=edgesBack 0 l&&tmpsOk l (aheads l []) 0 l
def noRange:Code->Bool
 | .seq a b=>match noRange a with
   |true=>noRange b
   |false=>false
 | .cond _ a b=>match noRange a with
   |true=>noRange b
   |false=>false
 | .block _ c=>noRange c
 | .scope c=>noRange c
 | .loop c=>noRange c
 | .rangeFunc _ _ _ _=>false
 |_=>true
def dstsOk (n:Nat):Code->Bool
 | .region _ ops d=>match allOk (dstOk n) ops.toList with
   |true=>match d with
    |true=>drawOk ops.toList
    |false=>true
   |false=>false
 | .seq a b=>match dstsOk n a with
   |true=>dstsOk n b
   |false=>false
 | .cond _ a b=>match dstsOk n a with
   |true=>dstsOk n b
   |false=>false
 | .block _ c=>dstsOk n c
 | .scope c=>dstsOk n c
 | .loop c=>dstsOk n c
 | .rangeFunc _ ps a b=>match all1 ps.toList λp=>Nat.blt p n with
   |true=>match dstsOk n a with
    |true=>match dstsOk n b with
     |true=>match noRange a with
      |true=>noRange b
      |false=>false
     |false=>false
    |false=>false
   |false=>false
 |_=>true
def kindOf (d:TypeDesc):TyK:=
 match d with
 | .bool=> .bool
 | .int k=> .int k
 | .string=> .string
 | .pointer e=> .pointer e
 | .slice e=> .slice e
 | .array n e=> .array n e
 | .map k e=> .map k e
 | .struct fs=>match fs.toList.all λf=>f.name != "_" with
   |true=> .struct (fs.toList.map λf=>(f.type,f.offset))
   |false=> .other
 | .func .. => .func
 | .interface _=> .iface
 |_=> .other
def isAggD (d:TypeDesc):Bool:=
 match d with
 | .struct _=>true
 | .array _ _=>true
 |_=>false
def methsOf (l:List Method):List (String×Option (FuncId×Bool)):=
 l.map λm=>(m.name,match m.func with
  |some p=>match m.path.toList with
   |[]=>some p
   |_=>none
  |none=>none)
def aggV (z:Value):Bool:=
 match z with
 | .agg _=>true
 |_=>false
def tyOf (P:Program) (t:TypeId) (cmp:Bool):Option TyS:=
 match P.info? t,P.underlying t with
 |some i,some d=>match i.zero with
  |some z=>match consts z.cells.toList with
   |some cs=>match Nat.beq (len cs) i.size&&(aggV z==isAggD d)with
    |true=>some ⟨kindOf d,i.size,i.bytes,cs,isAggD d,cmp,methsOf i.methods.toList⟩
    |false=>none
   |none=>none
  |none=>none
 |_,_=>none
end Go.CM
