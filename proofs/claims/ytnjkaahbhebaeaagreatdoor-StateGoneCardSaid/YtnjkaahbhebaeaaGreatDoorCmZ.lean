/- Runs of the plain machine, put together: what a piece of code comes to when there is fuel enough. No condition. -/
import Derived.Test.YtnjkaahbhebaeaaGreatDoorCmD
import Derived.Test.YtnjkaahbhebaeaaGreatDoorCmQ
import Derived.KernelRfl
import Derived.Test.YtnjkaahbhebaeaaGreatDoorCmU
import Derived.ChangeArms
import Derived.Lib.SmallJoins
import Derived.Carry
set_option linter.unusedVariables false
set_option linter.unusedSimpArgs false
noncomputable section
namespace Go.CM
def Evl (E:Env) (t:Task) (tm:Tm) (h:Heap) (r:R):Prop:=∃N,∀m,N<=m->run E m t tm h=r
section
variable {E:Env} {t:Task} {tm tm1:Tm} {h h1:Heap} {r r1:R} {a b:Code} {all rest:List Oper} {o:Oper} {v:CV}
theorem Evl.step (e:∃N,∀m,N<=m->stepR E (run E m) t tm h=r):Evl E t tm h r:=by
 obtain⟨N,hN⟩:=e;refine⟨N+1,λm hm=> ?_⟩;obtain⟨m,rfl⟩:∃k,m=k+1:=⟨m-1,by omega⟩;exact hN m (by omega)
theorem Evl.skip:Evl E (.code .skip) tm h (.code .normal tm h):= .step ⟨0,λ_ _=>rfl⟩
theorem Evl.ret:Evl E (.code .ret) tm h (.code .ret tm h):= .step ⟨0,λ_ _=>rfl⟩
theorem Evl.exit {i:Nat}:Evl E (.code (.exit i)) tm h (.code (.exit i) tm h):= .step ⟨0,λ_ _=>rfl⟩
theorem Evl.seq (h1':Evl E (.code a) tm h (.code .normal tm1 h1)) (h2:Evl E (.code b) tm1 h1 r):Evl E (.code (.seq a b)) tm h r:=by
 obtain⟨N1,e1⟩:=h1';obtain⟨N2,e2⟩:=h2;refine .step ⟨max N1 N2,λm hm=> ?_⟩;show kSeq (run E m) b (run E m (.code a) tm h)=r;rw[e1 m (by omega)];exact e2 m (by omega)
theorem Evl.seq_out (h1':Evl E (.code a) tm h r) (ho:∀f,kSeq f b r=r):Evl E (.code (.seq a b)) tm h r:=by
 obtain⟨N1,e1⟩:=h1';refine .step ⟨N1,λm hm=> ?_⟩;show kSeq (run E m) b (run E m (.code a) tm h)=r;rw[e1 m hm,ho]
theorem Evl.cond {c:Operand} {x:Bool} (hc:cvOf E.globs tm c= .bool x) (ht:x=true->Evl E (.code a) tm h r) (hf:x=false->Evl E (.code b) tm h r):Evl E (.code (.cond c a b)) tm h r:=by
 cases x with
 |true=>
  obtain⟨N,e⟩:=ht rfl;refine .step ⟨N,λm hm=> ?_⟩;show kCond (run E m) a b tm h (cvOf E.globs tm c)=r;rw[hc];exact e m hm
 |false=>
  obtain⟨N,e⟩:=hf rfl;refine .step ⟨N,λm hm=> ?_⟩;show kCond (run E m) a b tm h (cvOf E.globs tm c)=r;rw[hc];exact e m hm
theorem Evl.block {i:Nat} (h1':Evl E (.code b) tm h r1) (hr:kBlock i r1=r):Evl E (.code (.block i b)) tm h r:=by
 obtain⟨N1,e1⟩:=h1';refine .step ⟨N1,λm hm=> ?_⟩;show kBlock i (run E m (.code b) tm h)=r;rw[e1 m hm,hr]
theorem Evl.loop (h1':Evl E (.code b) tm h (.code .normal tm1 h1)) (h2:Evl E (.code (.loop b)) tm1 h1 r):Evl E (.code (.loop b)) tm h r:=by
 obtain⟨N1,e1⟩:=h1';obtain⟨N2,e2⟩:=h2;refine .step ⟨max N1 N2,λm hm=> ?_⟩;show kSeq (run E m) (.loop b) (run E m (.code b) tm h)=r;rw[e1 m (by omega)];exact e2 m (by omega)
theorem Evl.loop_out (h1':Evl E (.code b) tm h r) (ho:∀f,kSeq f (.loop b) r=r):Evl E (.code (.loop b)) tm h r:=by
 obtain⟨N1,e1⟩:=h1';refine .step ⟨N1,λm hm=> ?_⟩;show kSeq (run E m) (.loop b) (run E m (.code b) tm h)=r;rw[e1 m hm,ho]
theorem Evl.region {l:Nat} {ops:Array Oper} (h1':Evl E (.ops ops.toList ops.toList) tm h r):Evl E (.code (.region l ops false)) tm h r:=by
 obtain⟨N1,e1⟩:=h1';exact .step ⟨N1,λm hm=>e1 m hm⟩
theorem Evl.draws {l:Nat} {ops:Array Oper} (h1':Evl E (.draw (aheads ops.toList []) ops.toList ops.toList 0 []) tm h r):Evl E (.code (.region l ops true)) tm h r:=by
 obtain⟨N1,e1⟩:=h1';exact .step ⟨N1,λm hm=>e1 m hm⟩
theorem Evl.nil:Evl E (.ops all []) tm h (.code .normal tm h):= .step ⟨0,λ_ _=>rfl⟩
def opAny (E:Env) (o:Oper) (tm:Tm) (h:Heap):Option (CV×Heap):=match o.op with
 | .call c=>match isBuiltin c.callee with
   |some b=>builtinV E h b c.argTypes.toList (c.args.toList.map (cvOf E.globs tm))
   |none=>none
 | .panic _=>none
 |_=>opVal E o.op (cvOf E.globs tm) h
theorem Evl.op (hg:guardOn all tm o=some true) (ho:opAny E o tm h=some (v,h1)) (h2:Evl E (.ops all rest) (putTmp tm o.dst v) h1 r):Evl E (.ops all (o::rest)) tm h r:=by
 obtain⟨N,e⟩:=h2;refine .step ⟨N,λm hm=> ?_⟩
 show(match guardOn all tm o with
  |some true=>sOp E (run E m) all rest o tm h
  |some false=>run E m (.ops all rest) (putTmp tm o.dst (.tup [])) h
  |none=> .stop)=r
 rw[hg];show sOp E (run E m) all rest o tm h=r;unfold opAny at ho;unfold sOp;split at ho
 ·rename_i c hc
  rw[hc];simp only;split at ho
  ·rename_i b hb
   rw[hb];simp only;rw[ho];exact e m hm
  ·cases ho
 ·cases ho
 ·rename_i hc hp
  split
  ·rename_i c hcc;exact absurd hcc (hc c)
  ·rename_i x hx;exact absurd hx (hp x)
  ·rw[ho];exact e m hm
theorem Evl.off (hg:guardOn all tm o=some false) (h2:Evl E (.ops all rest) (putTmp tm o.dst (.tup [])) h r):Evl E (.ops all (o::rest)) tm h r:=by
 obtain⟨N,e⟩:=h2;refine .step ⟨N,λm hm=> ?_⟩
 show(match guardOn all tm o with
  |some true=>sOp E (run E m) all rest o tm h
  |some false=>run E m (.ops all rest) (putTmp tm o.dst (.tup [])) h
  |none=> .stop)=r
 rw[hg];exact e m hm
theorem Evl.call {c:Call} {f:Operand} (hg:guardOn all tm o=some true) (hc:o.op= .call c) (hf:c.callee= .value f) (h1':Evl E (.call (cvOf E.globs tm f) (c.args.toList.map (cvOf E.globs tm))) .leaf h (.val v h1))
  (h2:Evl E (.ops all rest) (putTmp tm o.dst v) h1 r):Evl E (.ops all (o::rest)) tm h r:=by
 obtain⟨N1,e1⟩:=h1';obtain⟨N2,e2⟩:=h2;refine .step ⟨max N1 N2,λm hm=> ?_⟩
 show(match guardOn all tm o with
  |some true=>sOp E (run E m) all rest o tm h
  |some false=>run E m (.ops all rest) (putTmp tm o.dst (.tup [])) h
  |none=> .stop)=r
 rw[hg];show sOp E (run E m) all rest o tm h=r;unfold sOp;rw[hc];simp only[hf,isBuiltin,sCallee];rw[e1 m (by omega)];exact e2 m (by omega)
theorem Evl.fn {f:Nat} {first caps args:List CV} {s:FnS} {c:Code} {r0:R} (hk:kfind h E.globs f (first++args++caps) E.known=none) (hf:E.fn f=some s) (hc:s.body=some c) (hn:Nat.ble (len (first++args++caps)) s.ntmps=true)
  (h1':Evl E (.code c) (putArgs 0 (first++args++caps) .leaf) h r0) (hr:kBody E s.results r0=r):Evl E (.call (.fn f first caps) args) tm h r:=by
 obtain⟨N,e⟩:=h1';refine .step ⟨N,λm hm=> ?_⟩;show sFn E (run E m) (first++args++caps) h f (kfind h E.globs f (first++args++caps) E.known)=r;rw[hk];show sBody E (run E m) (first++args++caps) h (E.fn f)=r;rw[hf];unfold sBody;simp only[hc,hn];rw[e m hm,hr]
theorem Evl.known {f:Nat} {first caps args:List CV} (hk:kfind h E.globs f (first++args++caps) E.known=some (v,[])) (hr:rowsHold h E.rows=true):Evl E (.call (.fn f first caps) args) tm h (.val v h):=by
 refine .step ⟨0,λm _=> ?_⟩;show sFn E (run E m) (first++args++caps) h f (kfind h E.globs f (first++args++caps) E.known)=_;rw[hk];show kKnown (v,[]) h (rowsHold h E.rows)=_;rw[hr];rfl
def W (E:Env) (t:Task) (tm:Tm) (h:Heap) (Q:R->Prop):Prop:=∃r,Evl E t tm h r/\Q r
variable {Q Q':R->Prop}
theorem W.mono (w:W E t tm h Q) (hq:∀r,Q r->Q' r):W E t tm h Q':=by
 obtain⟨r,e,q⟩:=w;exact⟨r,e,hq r q⟩
def SeqQ (E:Env) (b:Code) (Q:R->Prop) (r:R):Prop:=match r with
 | .code e tm h=>match e with
   | .normal=>W E (.code b) tm h Q
   |_=>Q r
 |_=>Q r
theorem W.seq (w:W E (.code a) tm h (SeqQ E b Q)):W E (.code (.seq a b)) tm h Q:=by
 obtain⟨r,e,q⟩:=w;cases r with
 |code ex tm' h'=>
  cases ex with
  |normal=>
   obtain⟨r2,e2,q2⟩:=q;exact⟨r2,e.seq e2,q2⟩
  |exit i=>exact⟨_,e.seq_out λ_=>rfl,q⟩
  |goto i=>exact⟨_,e.seq_out λ_=>rfl,q⟩
  |ret=>exact⟨_,e.seq_out λ_=>rfl,q⟩
 |val v h'=>exact⟨_,e.seq_out λ_=>rfl,q⟩
 |pan v h'=>exact⟨_,e.seq_out λ_=>rfl,q⟩
 |stop=>exact⟨_,e.seq_out λ_=>rfl,q⟩
def BlockQ (i:Nat) (Q:R->Prop) (r:R):Prop:=Q (kBlock i r)
theorem W.block {i:Nat} (w:W E (.code b) tm h (BlockQ i Q)):W E (.code (.block i b)) tm h Q:=by
 obtain⟨r,e,q⟩:=w;exact⟨_,e.block rfl,q⟩
theorem BlockQ.exit {i:Nat} (q:Q (.code .normal tm h)):BlockQ i Q (.code (.exit i) tm h):=by
 show Q (match Nat.beq i i with|true=> .code .normal tm h|false=> .code (.exit i) tm h)
 rw[Nat.beq_refl];exact q
theorem W.skip (q:Q (.code .normal tm h)):W E (.code .skip) tm h Q:=⟨_,.skip,q⟩
theorem W.ret (q:Q (.code .ret tm h)):W E (.code .ret) tm h Q:=⟨_,.ret,q⟩
theorem W.exit {i:Nat} (q:Q (.code (.exit i) tm h)):W E (.code (.exit i)) tm h Q:=⟨_,.exit,q⟩
theorem W.cond {c:Operand} {x:Bool} (hc:cvOf E.globs tm c= .bool x) (ht:x=true->W E (.code a) tm h Q) (hf:x=false->W E (.code b) tm h Q):W E (.code (.cond c a b)) tm h Q:=by
 cases x with
 |true=>
  obtain⟨r,e,q⟩:=ht rfl;exact⟨r,.cond hc (λ_=>e) (λh=>by cases h),q⟩
 |false=>
  obtain⟨r,e,q⟩:=hf rfl;exact⟨r,.cond hc (λh=>by cases h) (λ_=>e),q⟩
theorem W.region {l:Nat} {ops:Array Oper} (w:W E (.ops ops.toList ops.toList) tm h Q):W E (.code (.region l ops false)) tm h Q:=by
 obtain⟨r,e,q⟩:=w;exact⟨r,e.region,q⟩
theorem W.draws {l:Nat} {ops:Array Oper} (w:W E (.draw (aheads ops.toList []) ops.toList ops.toList 0 []) tm h Q):W E (.code (.region l ops true)) tm h Q:=by
 obtain⟨r,e,q⟩:=w;exact⟨r,e.draws,q⟩
theorem W.nil (q:Q (.code .normal tm h)):W E (.ops all []) tm h Q:=⟨_,.nil,q⟩
theorem W.op (hg:guardOn all tm o=some true) (ho:opAny E o tm h=some (v,h1)) (w:W E (.ops all rest) (putTmp tm o.dst v) h1 Q):W E (.ops all (o::rest)) tm h Q:=by
 obtain⟨r,e,q⟩:=w;exact⟨r,.op hg ho e,q⟩
theorem W.off (hg:guardOn all tm o=some false) (w:W E (.ops all rest) (putTmp tm o.dst (.tup [])) h Q):W E (.ops all (o::rest)) tm h Q:=by
 obtain⟨r,e,q⟩:=w;exact⟨r,.off hg e,q⟩
def CallQ (E:Env) (all rest:List Oper) (dst:Option Nat) (tm:Tm) (Q:R->Prop) (r:R):Prop:=match r with
 | .val v h=>W E (.ops all rest) (putTmp tm dst v) h Q
 |_=>False
theorem W.call {c:Call} {f:Operand} (hg:guardOn all tm o=some true) (hc:o.op= .call c) (hf:c.callee= .value f) (w:W E (.call (cvOf E.globs tm f) (c.args.toList.map (cvOf E.globs tm))) .leaf h (CallQ E all rest o.dst tm Q)):W E (.ops all (o::rest)) tm h Q:=by
 obtain⟨r,e,q⟩:=w;cases r with
 |val v h'=>
  obtain⟨r2,e2,q2⟩:=q;exact⟨r2,.call hg hc hf e e2,q2⟩
 |_=>exact q.elim
theorem CallQ.val {dst:Option Nat} (w:W E (.ops all rest) (putTmp tm dst v) h Q):CallQ E all rest dst tm Q (.val v h):=w
def BodyQ (E:Env) (rs:List ResultVar) (Q:R->Prop) (r:R):Prop:=Q (kBody E rs r)
theorem W.fn {f:Nat} {first caps args:List CV} {s:FnS} {c:Code} (hk:kfind h E.globs f (first++args++caps) E.known=none) (hf:E.fn f=some s) (hc:s.body=some c) (hn:Nat.ble (len (first++args++caps)) s.ntmps=true)
  (w:W E (.code c) (putArgs 0 (first++args++caps) .leaf) h (BodyQ E s.results Q)):W E (.call (.fn f first caps) args) tm h Q:=by
 obtain⟨r,e,q⟩:=w;exact⟨_,.fn hk hf hc hn e rfl,q⟩
theorem W.known {f:Nat} {first caps args:List CV} (hk:kfind h E.globs f (first++args++caps) E.known=some (v,[])) (hr:rowsHold h E.rows=true) (q:Q (.val v h)):W E (.call (.fn f first caps) args) tm h Q:=⟨_,.known hk hr,q⟩
def LoopQ {σ:Type} (S:σ->Tm->Heap->Prop) (μ:σ->Nat) (s:σ) (Q:R->Prop) (r:R):Prop:=match r with
 | .code e tm h=>match e with
   | .normal=>∃s',μ s'<μ s/\S s' tm h
   |_=>Q r
 |_=>Q r
theorem W.loop {σ:Type} (S:σ->Tm->Heap->Prop) (μ:σ->Nat) (step:∀s tm h,S s tm h->W E (.code b) tm h (LoopQ S μ s Q)) {s:σ} (hs:S s tm h):W E (.code (.loop b)) tm h Q:=by
 suffices H:∀n s tm h,μ s<=n->S s tm h->W E (.code (.loop b)) tm h Q from H (μ s) s tm h (Nat.le_refl _) hs
 intro n
 induction n with
 |zero=>
  intro s tm h hn hs;obtain⟨r,e,q⟩:=step s tm h hs;cases r with
  |code ex tm' h'=>
   cases ex with
   |normal=>obtain⟨s',h1,_⟩:=q;omega
   |exit i=>exact⟨_,e.loop_out λ_=>rfl,q⟩
   |goto i=>exact⟨_,e.loop_out λ_=>rfl,q⟩
   |ret=>exact⟨_,e.loop_out λ_=>rfl,q⟩
  |val v h'=>exact⟨_,e.loop_out λ_=>rfl,q⟩
  |pan v h'=>exact⟨_,e.loop_out λ_=>rfl,q⟩
  |stop=>exact⟨_,e.loop_out λ_=>rfl,q⟩
 |succ n ih=>
  intro s tm h hn hs;obtain⟨r,e,q⟩:=step s tm h hs;cases r with
  |code ex tm' h'=>
   cases ex with
   |normal=>
    obtain⟨s',h1,h2⟩:=q;obtain⟨r2,e2,q2⟩:=ih s' tm' h' (by omega) h2;exact⟨r2,e.loop e2,q2⟩
   |exit i=>exact⟨_,e.loop_out λ_=>rfl,q⟩
   |goto i=>exact⟨_,e.loop_out λ_=>rfl,q⟩
   |ret=>exact⟨_,e.loop_out λ_=>rfl,q⟩
  |val v h'=>exact⟨_,e.loop_out λ_=>rfl,q⟩
  |pan v h'=>exact⟨_,e.loop_out λ_=>rfl,q⟩
  |stop=>exact⟨_,e.loop_out λ_=>rfl,q⟩
theorem SeqQ.exit {i:Nat} (q:Q (.code (.exit i) tm h)):SeqQ E b Q (.code (.exit i) tm h):=q
theorem SeqQ.ret (q:Q (.code .ret tm h)):SeqQ E b Q (.code .ret tm h):=q
theorem SeqQ.normal (w:W E (.code b) tm h Q):SeqQ E b Q (.code .normal tm h):=w
theorem BlockQ.normal {i:Nat} (q:Q (.code .normal tm h)):BlockQ i Q (.code .normal tm h):=q
theorem BlockQ.ret {i:Nat} (q:Q (.code .ret tm h)):BlockQ i Q (.code .ret tm h):=q
theorem BlockQ.other {i j:Nat} (hn:Nat.beq j i=false) (q:Q (.code (.exit j) tm h)):BlockQ i Q (.code (.exit j) tm h):=by
 show Q (match Nat.beq j i with|true=> .code .normal tm h|false=> .code (.exit j) tm h)
 rw[hn];exact q
theorem LoopQ.exit {σ:Type} {S:σ->Tm->Heap->Prop} {μ:σ->Nat} {s:σ} {i:Nat} (q:Q (.code (.exit i) tm h)):LoopQ S μ s Q (.code (.exit i) tm h):=q
theorem LoopQ.ret {σ:Type} {S:σ->Tm->Heap->Prop} {μ:σ->Nat} {s:σ} (q:Q (.code .ret tm h)):LoopQ S μ s Q (.code .ret tm h):=q
theorem W.ld {t:TypeId} {x:Operand} {i off:Nat} {cs:List CV} {ro:Bool} {s:TyS} {v:CV} (hgd:guardOn all tm o=some true) (hop:o.op= .load t x) (hx:cvOf E.globs tm x= .ptr (some (i,off))) (hg:h.get i=some (.cells cs ro)) (hs:E.ty t=some s) (hp:part cs off s.size s.agg=some v)
  (w:W E (.ops all rest) (putTmp tm o.dst v) h Q):W E (.ops all (o::rest)) tm h Q:=by
 refine W.op hgd (v:=v) (h1:=h) ?_ w;unfold opAny;rw[hop];show oLoad E t (cvOf E.globs tm x) h=_;rw[hx];unfold oLoad load loadB;simp only[hg,hs,hp,withH]
theorem W.ix {t:TypeId} {x y:Operand} {s:TyS} {e i off len c ex z j:Nat} {kk:IntKind} {n:Int} (hgd:guardOn all tm o=some true) (hop:o.op= .indexAddr t x y) (hx:cvOf E.globs tm x= .slice (some (i,off)) len c ex) (hy:cvOf E.globs tm y= .int kk n) (hs:E.ty t=some s) (hk:s.kind= .slice e) (hz:sizeOf? E e=some z) (hn:place n len=some j)
  (w:W E (.ops all rest) (putTmp tm o.dst (.ptr (some (i,off+j*z)))) h Q):W E (.ops all (o::rest)) tm h Q:=by
 refine W.op hgd (v:= .ptr (some (i,off+j*z))) (h1:=h) ?_ w;unfold opAny;rw[hop];show oIndexAddr E (E.ty t) (cvOf E.globs tm x) (cvOf E.globs tm y) h=_;rw[hx,hy,hs];unfold oIndexAddr;simp only[hk,hz,hn,addrAt]
theorem new_same (h:Heap) (b:Blk):(h.new b).get h.next=some b:=by rw[Heap.get_new];simp
theorem place_of {n:Int} {len j:Nat} (hn:n=(j:Int)) (hj:j<len):place n len=some j:=by
 subst hn;show(match Nat.blt j len with|true=>some j|false=>none)=some j
 have e:Nat.blt j len=true:=by rw[Nat.blt_eq];exact hj
 rw[e]
def Fresh (h:Heap):Prop:=∀i,h.next<=i->h.get i=none
theorem Fresh.new {h:Heap} (f:Fresh h) (b:Blk):Fresh (h.new b):=λi hi=>by
 have hi:h.next+1<=i:=hi;rw[Heap.get_new,if_neg (by omega)];exact f i (by omega)
structure Ext (h h':Heap):Prop where
 next:h.next<=h'.next
 old:∀i,i<h.next->h'.get i=h.get i
 fr:Fresh h->Fresh h'
theorem Ext.refl (h:Heap):Ext h h:=⟨Nat.le_refl _,λ_ _=>rfl,id⟩
theorem Ext.trans {a b c:Heap} (x:Ext a b) (y:Ext b c):Ext a c:=⟨Nat.le_trans x.next y.next,λi hi=>(y.old i (Nat.lt_of_lt_of_le hi x.next)).trans (x.old i hi),λf=>y.fr (x.fr f)⟩
theorem Ext.new (h:Heap) (b:Blk):Ext h (h.new b):=⟨Nat.le_succ _,λi hi=>by rw[Heap.get_new,if_neg (by omega)],λf=>f.new b⟩
theorem Ext.store {h H K:Heap} {i:Nat} (x:Ext h H) (nx:K.next=H.next) (kp:∀k,k≠i->K.get k=H.get k) (hi:h.next<=i) (hi2:i<H.next):Ext h K:=
 ⟨by rw[nx];exact x.next,λk hk=>(kp k (by omega)).trans (x.old k hk),λf k hk=>by
  rw[nx]at hk;exact(kp k (by omega)).trans (x.fr f k hk)⟩
theorem W.st {t:TypeId} {x y:Operand} {id off:Nat} {cs cs' vs:List CV} {s:TyS} (hgd:guardOn all tm o=some true) (hop:o.op= .store t x y) (hx:cvOf E.globs tm x= .ptr (some (id,off))) (hy:(cvOf E.globs tm y).cells=some vs) (hs:E.ty t=some s) (hl:Nat.beq (len vs) s.size=true) (hg:h.get id=some (.cells cs false)) (hp:setAt cs vs off=some cs')
  (w:W E (.ops all rest) (putTmp tm o.dst .undef) (h.put id (.cells cs' false)) Q):W E (.ops all (o::rest)) tm h Q:=by
 refine W.op hgd (v:= .undef) (h1:=h.put id (.cells cs' false)) ?_ w;unfold opAny;rw[hop];show oStore E t (cvOf E.globs tm x) (cvOf E.globs tm y) h=_;rw[hx];unfold oStore store storeV;simp only[hs,hy,hl];unfold putCells;simp only[hg,hp,Option.map_some,ofH]
theorem W.opn {a0 a1 a2 a3 a4 a5 a6 a7 a8 a9 a10 a11 a12 a13 a14 a15:NA} {a16:Tree CV} (hg:guardOn all tm o=some true) (ho:opAny E o tm h=some (v,h1)) (ht:putTmp tm o.dst v=(Tm.mk a0 a1 a2 a3 a4 a5 a6 a7 a8 a9 a10 a11 a12 a13 a14 a15 a16)) (w:W E (.ops all rest) (Tm.mk a0 a1 a2 a3 a4 a5 a6 a7 a8 a9 a10 a11 a12 a13 a14 a15 a16) h1 Q):W E (.ops all (o::rest)) tm h Q:=W.op hg ho (by rw[ht];exact w)
theorem W.offn {a0 a1 a2 a3 a4 a5 a6 a7 a8 a9 a10 a11 a12 a13 a14 a15:NA} {a16:Tree CV} (hg:guardOn all tm o=some false) (ht:putTmp tm o.dst (.tup [])=(Tm.mk a0 a1 a2 a3 a4 a5 a6 a7 a8 a9 a10 a11 a12 a13 a14 a15 a16)) (w:W E (.ops all rest) (Tm.mk a0 a1 a2 a3 a4 a5 a6 a7 a8 a9 a10 a11 a12 a13 a14 a15 a16) h Q):W E (.ops all (o::rest)) tm h Q:=W.off hg (by rw[ht];exact w)
def CutQ (P:Tm->Heap->Prop) (r:R):Prop:=match r with
 | .code e tm h=>match e with
   | .normal=>P tm h
   |_=>False
 |_=>False
theorem CutQ.normal {P:Tm->Heap->Prop} (p:P tm h):CutQ P (.code .normal tm h):=p
theorem rowsHold_of {h h':Heap}:∀{rows:List (Nat×List CV)},(∀r∈rows,h'.get r.1=h.get r.1)->rowsHold h rows=true->rowsHold h' rows=true
 |[],_,_=>rfl
 |r::rs,e,hr=>by
  unfold rowsHold at hr ⊢;rw[e r (by simp)];cases hb:rowIs r.2 (h.get r.1)with
  |true=>
   rw[hb]at hr;exact rowsHold_of (λx hx=>e x (List.mem_cons_of_mem _ hx)) hr
  |false=>rw[hb]at hr;cases hr
theorem W.stn {t:TypeId} {x y:Operand} {id off:Nat} {cs cs' vs:List CV} {s:TyS} (hgd:guardOn all tm o=some true) (hop:o.op= .store t x y) (hx:cvOf E.globs tm x= .ptr (some (id,off))) (hy:(cvOf E.globs tm y).cells=some vs) (hs:E.ty t=some s) (hl:Nat.beq (len vs) s.size=true) (hg:h.get id=some (.cells cs false)) (hp:setAt cs vs off=some cs')
  (w:∀h':Heap,h'.next=h.next->h'.get id=some (.cells cs' false)->(∀k,k≠id->h'.get k=h.get k)->W E (.ops all rest) (putTmp tm o.dst .undef) h' Q):W E (.ops all (o::rest)) tm h Q:=
 W.st hgd hop hx hy hs hl hg hp (w _ rfl (by rw[Heap.get_put];simp) λk hk=>by rw[Heap.get_put,if_neg (Ne.symm hk)])
theorem W.anyTm (P:Tm->Prop) (hp:P tm) (w:∀tm,P tm->W E t tm h Q):W E t tm h Q:=w tm hp
end
end Go.CM

noncomputable section
namespace Go.CM
section
variable {E:Env} {bs:List Bits} {all rest:List Oper} {o:Oper} {i n0:Nat} {recs:List Rec} {tm:Tm} {h:Heap} {v:CV} {Q:R->Prop}
def CellsAt (h:Heap) (k:Nat):Prop:=∃cs ro,h.get k=some (.cells cs ro)
theorem within_self (k n:Nat):within k n n=false:=by
 unfold within;cases h1:Nat.ble n k with
 |false=>rfl
 |true=>
  cases h2:Nat.blt k n with
  |false=>rfl
  |true=>
   have:=Nat.le_of_ble_eq_true h1;rw[Nat.blt_eq]at h2;omega
theorem all1_of {l:List Nat} {p:Nat->Bool} (h:∀k∈l,p k=true):all1 l p=true:=by
 induction l with
 |nil=>rfl
 |cons x l ih=>
  show(match p x with|true=>all1 l p|false=>false)=true
  rw[h x (by simp)];exact ih λk hk=>h k (List.mem_cons_of_mem _ hk)
def opApart (fp':List Nat) (wr:Bool) (lo hi k:Nat):Bool:=match within k lo hi with
 |true=>false
 |false=>match wr with
  |true=> !mem k fp'
  |false=>true
def callApart (d d':Heap) (wr:Bool) (k:Nat):Bool:=match blkEq (d.get k) (d'.get k)with
 |true=>match wr with
  |true=>isNo (d.get k)
  |false=>true
 |false=>false
def both (a b:Bool):Bool:=match a with
 |true=>b
 |false=>false
theorem okPair_op {fp fp' news:List Nat} {wr wr':Bool} {i lo hi:Nat}:okPair fp wr news (.op i fp' wr' lo hi)=both (all1 fp (opApart fp' (wr||wr') lo hi)) (all1 news λk=> !mem k fp'):=rfl
theorem okPair_call {fp news:List Nat} {wr:Bool} {i:Nat} {d d':Heap}:okPair fp wr news (.call i d d')=both (all1 fp (callApart d d' wr)) (all1 news λk=>match isNo (d.get k)with|true=>isNo (d'.get k)|false=>false):=rfl
theorem okPairs_ahead {ahead:Bits} {fp:List Nat} {wr:Bool} {news:List Nat}:∀{recs:List Rec},(∀r∈recs,bit (recIdx r) ahead=true)->okPairs ahead fp wr news recs=true
 |[],_=>rfl
 |r::rs,hr=>by
  unfold okPairs;have ih:=okPairs_ahead (fp:=fp) (wr:=wr) (news:=news) λx hx=>hr x (List.mem_cons_of_mem _ hx);rw[hr r (by simp),ih];cases okPair fp wr news r<;>rfl
theorem W.dnil (q:Q (.code .normal tm h)):W E (.draw bs all [] i recs) tm h Q:=⟨_,.step ⟨0,λ_ _=>rfl⟩,q⟩
theorem W.doff (hg:guardOn all tm o=some false) (w:W E (.draw bs all rest (i+1) recs) (putTmp tm o.dst (.tup [])) h Q):W E (.draw bs all (o::rest) i recs) tm h Q:=by
 obtain⟨r,⟨N,e⟩,q⟩:=w;refine⟨r,.step ⟨N,λm hm=> ?_⟩,q⟩
 show(match guardOn all tm o with
  |some true=>dOp E (run E m) bs all rest o i recs tm h
  |some false=>run E m (.draw bs all rest (i+1) recs) (putTmp tm o.dst (.tup [])) h
  |none=> .stop)=r
 rw[hg];exact e m hm
def fpAny (E:Env) (o:Oper) (tm:Tm):List Nat:=fpOf o.op (cvOf E.globs tm)
def isAppO:Op->Bool
 | .call c=>match isBuiltin c.callee with
   |some b=>isApp b
   |none=>false
 |_=>false
theorem isAppO_wr {o:Op} (h:wrOf o=false):isAppO o=false:=by
 unfold wrOf at h;unfold isAppO;split
 ·rename_i c
  simp only at h;split
  ·rename_i b hb
   have:=isBuiltin_some hb;rw[this]at h;cases b<;>first|rfl|cases h
  ·rfl
 ·rfl
theorem isAppO_store {o:Op} {t:TypeId} {x y:Operand} (h:o= .store t x y):isAppO o=false:=by rw[h];rfl
theorem dOp_any {E:Env} {run:Run} {bs:List Bits} {all r:List Oper} {o:Oper} {i:Nat} {recs:List Rec} {tm:Tm} {h:Heap} {p:CV×Heap} (ho:opAny E o tm (only h (fpAny E o tm))=some p) (hna:isAppO o.op=false:=by first|exact isAppO_wr (by assumption)|exact isAppO_store (by assumption)|(rw[‹o.op=_›];rfl)):
  dOp E run bs all r o i recs tm h=dNext run bs all r i recs o.dst tm h (fpAny E o tm) (wrOf o.op) (some p):=by
 unfold opAny at ho;unfold dOp;split at ho
 ·rename_i c hc
  rw[hc]at hna ⊢;simp only;split at ho
  ·rename_i b hb
   unfold isAppO at hna;simp only[hb]at hna;rw[hb];simp only[hna];unfold fpAny at ho ⊢;rw[hc]at ho ⊢;rw[ho]
  ·cases ho
 ·cases ho
 ·rename_i hc hp
  split
  ·rename_i c hcc;exact absurd hcc (hc c)
  ·unfold fpAny at ho ⊢
   rw[ho]
theorem dOp_app {E:Env} {run:Run} {bs:List Bits} {all r:List Oper} {o:Oper} {i:Nat} {recs:List Rec} {tm:Tm} {h:Heap} {p:CV×Heap} {c:Call} (ho:opAny E o tm (only h (fpAny E o tm))=some p) (hop:o.op= .call c) (hb:c.callee= .builtin .append):
  dOp E run bs all r o i recs tm h=dNextW run bs all r i recs o.dst tm h (fpAny E o tm) (apWs (c.args.toList.map (cvOf E.globs tm))) (some p):=by
 unfold opAny at ho;unfold dOp;rw[hop]at ho ⊢;simp only[hb,isBuiltin,isApp]at ho ⊢;unfold fpAny at ho ⊢;rw[hop]at ho ⊢;rw[ho]
theorem isAppO_true {o:Op} (h:isAppO o=true):∃c,o= .call c/\c.callee= .builtin .append:=by
 unfold isAppO at h;split at h
 ·rename_i c
  split at h
  ·rename_i b hb
   exact⟨c,rfl,by rw[isBuiltin_some hb,isApp_true h]⟩
  ·cases h
 ·cases h
theorem W.dop (hg:guardOn all tm o=some true) (hfp:fpAny E o tm=[]) (ho:opAny E o tm ⟨.leaf,h.next,none⟩=some (v,⟨.leaf,h.next,none⟩)) (w:W E (.draw bs all rest (i+1) recs) (putTmp tm o.dst v) h Q):W E (.draw bs all (o::rest) i recs) tm h Q:=by
 obtain⟨r,⟨N,e⟩,q⟩:=w;refine⟨r,.step ⟨N,λm hm=> ?_⟩,q⟩
 show(match guardOn all tm o with
  |some true=>dOp E (run E m) bs all rest o i recs tm h
  |some false=>run E m (.draw bs all rest (i+1) recs) (putTmp tm o.dst (.tup [])) h
  |none=> .stop)=r
 rw[hg];have e1:opAny E o tm (only h (fpAny E o tm))=some (v,⟨.leaf,h.next,none⟩):=by rw[hfp];exact ho
 show dOp E (run E m) bs all rest o i recs tm h=r;cases hap:isAppO o.op with
 |false=>
  rw[dOp_any e1 hap,hfp]
  show(match isNil ([]:List Nat)&&Nat.beq h.next h.next with
   |true=>run E m (.draw bs all rest (i+1) recs) (putTmp tm o.dst v) h
   |false=>_)=r
  rw[Nat.beq_refl];exact e m hm
 |true=>
  obtain⟨c,hop,hb⟩:=isAppO_true hap;rw[dOp_app e1 hop hb,hfp]
  show(match isNil ([]:List Nat)&&Nat.beq h.next h.next with
   |true=>run E m (.draw bs all rest (i+1) recs) (putTmp tm o.dst v) h
   |false=>_)=r
  rw[Nat.beq_refl];exact e m hm
structure Same (h h':Heap):Prop where
 next:h'.next=h.next
 get:∀k,h'.get k=h.get k
theorem Same.ext {h h':Heap} (s:Same h h'):Ext h h':=⟨Nat.le_of_eq s.next.symm,λk _=>s.get k,λf k hk=>(s.get k).trans (f k (by rw[<-s.next];exact hk))⟩
theorem W.dix {t:TypeId} {x y:Operand} {s:TyS} {e id off len c ex z j:Nat} {kk:IntKind} {n:Int} (hgd:guardOn all tm o=some true) (hop:o.op= .indexAddr t x y) (hx:cvOf E.globs tm x= .slice (some (id,off)) len c ex) (hy:cvOf E.globs tm y= .int kk n) (hs:E.ty t=some s) (hk:s.kind= .slice e) (hz:sizeOf? E e=some z) (hn:place n len=some j)
  (w:W E (.draw bs all rest (i+1) recs) (putTmp tm o.dst (.ptr (some (id,off+j*z)))) h Q):W E (.draw bs all (o::rest) i recs) tm h Q:=by
 refine W.dop hgd (v:= .ptr (some (id,off+j*z))) ?_ ?_ w
 ·unfold fpAny;rw[hop];rfl
 ·unfold opAny
  rw[hop];show oIndexAddr E (E.ty t) (cvOf E.globs tm x) (cvOf E.globs tm y) _=_;rw[hx,hy,hs];unfold oIndexAddr;simp only[hk,hz,hn,addrAt]
mutual
theorem cvEq_refl:∀(c:CV),cvEq c c=true
 | .undef=>rfl
 | .bool b=>by simp[cvEq]
 | .int k n=>by simp[cvEq,kindEq_iff,intEq_eq]
 | .str s=>by simp[cvEq,bytesEq_eq]
 | .ptr none=>rfl
 | .ptr (some p)=>by simp[cvEq,Nat.beq_refl]
 | .slice none n c x=>by simp[cvEq,Nat.beq_refl]
 | .slice (some p) n c x=>by simp[cvEq,Nat.beq_refl]
 | .empty=>rfl
 | .map none=>rfl
 | .map (some r)=>by simp[cvEq,Nat.beq_refl]
 | .fn f a b=>by simp[cvEq,Nat.beq_refl,cvsEq_refl a,cvsEq_refl b]
 | .yield l=>by simp[cvEq,Nat.beq_refl]
 | .nilFunc=>rfl
 | .iface t v=>by simp[cvEq,Nat.beq_refl,cvEq_refl v]
 | .nilIface=>rfl
 | .agg a=>by simp[cvEq,cvsEq_refl a]
 | .tup a=>by simp[cvEq,cvsEq_refl a]
theorem cvsEq_refl:∀(l:List CV),cvsEq l l=true
 |[]=>rfl
 |c::l=>by simp[cvsEq,cvEq_refl c,cvsEq_refl l]
end
theorem blkEq_cells {cs:List CV} {ro:Bool}:blkEq (some (.cells cs ro)) (some (.cells cs ro))=true:=by
 simp[blkEq,cvsEq_refl]
theorem W.dst {idx:List Nat} {t:TypeId} {x y:Operand} {id off:Nat} {cs cs' vs:List CV} {s:TyS} (hri:∀r∈recs,recIdx r∈idx) (hid:(idx.all λj=>bit j ((nth bs i).getD Bits.nil))=true) (hgd:guardOn all tm o=some true) (hop:o.op= .store t x y) (hx:cvOf E.globs tm x= .ptr (some (id,off))) (hy:(cvOf E.globs tm y).cells=some vs)
  (hs:E.ty t=some s) (hl:Nat.beq (len vs) s.size=true) (hg:h.get id=some (.cells cs false)) (hp:setAt cs vs off=some cs')
  (w:∀recs' h',(∀r∈recs',recIdx r∈i::idx)->Same (h.put id (.cells cs' false)) h'->W E (.draw bs all rest (i+1) recs') (putTmp tm o.dst .undef) h' Q):W E (.draw bs all (o::rest) i recs) tm h Q:=by
 have hfp:fpAny E o tm=[id]:=by
  unfold fpAny;rw[hop];show idOf (cvOf E.globs tm x)=[id];rw[hx];rfl
 have hwr:wrOf o.op=true:=by rw[hop];rfl
 have hget:(only h [id]).get id=some (.cells cs false):=by rw[only_get];simpa using hg
 have ho:opAny E o tm (only h (fpAny E o tm))=some (.undef,(only h [id]).put id (.cells cs' false)):=by
  rw[hfp];unfold opAny;rw[hop];show oStore E t (cvOf E.globs tm x) (cvOf E.globs tm y) (only h [id])=_;rw[hx];unfold oStore CM.store storeV;simp only[hs,hy,hl];unfold putCells;simp only[hget,hp,Option.map_some,ofH]
 have hnx:((only h [id]).put id (.cells cs' false)).next=h.next:=only_next _ _
 have hsame:Same (h.put id (.cells cs' false)) (back h ((only h [id]).put id (.cells cs' false)) ([id]++span h.next 0)):=by
  refine⟨by rw[back_next,hnx];rfl,λk=> ?_⟩;rw[back_get,Heap.get_put,Heap.get_put];split
  ·rename_i hk
   have:k=id:=by
    have hk:k∈[id]:=hk;simpa using hk
   subst this;simp
  ·rename_i hk
   have:¬id=k:=by
    intro e;subst e;exact hk (by show id∈[id];simp)
   rw[if_neg this]
 have hall:∀r∈recs,bit (recIdx r) ((nth bs i).getD Bits.nil)=true:=λr hm=>List.all_eq_true.1 hid _ (hri r hm)
 obtain⟨r,⟨N,e⟩,q⟩:=w (.op i [id] true h.next h.next::recs) _ (λr hm=>by
  rcases List.mem_cons.1 hm with rfl|hm
  ·simp[recIdx]
  ·exact List.mem_cons_of_mem _ (hri r hm)) hsame
 refine⟨r,.step ⟨N,λm hm=> ?_⟩,q⟩
 show(match guardOn all tm o with
  |some true=>dOp E (run E m) bs all rest o i recs tm h
  |some false=>run E m (.draw bs all rest (i+1) recs) (putTmp tm o.dst (.tup [])) h
  |none=> .stop)=r
 rw[hgd];show dOp E (run E m) bs all rest o i recs tm h=r;rw[dOp_any ho,hfp,hwr]
 show(match okPairs ((nth bs i).getD Bits.nil) [id] true (span h.next (((only h [id]).put id (.cells cs' false)).next-h.next)) recs with
  |true=>run E m (.draw bs all rest (i+1) (.op i [id] true h.next ((only h [id]).put id (.cells cs' false)).next::recs)) (putTmp tm o.dst .undef) (back h ((only h [id]).put id (.cells cs' false)) ([id]++span h.next (((only h [id]).put id (.cells cs' false)).next-h.next)))
  |false=> .stop)=r
 rw[hnx,Nat.sub_self,okPairs_ahead hall];exact e m hm
theorem W.dopn {a0 a1 a2 a3 a4 a5 a6 a7 a8 a9 a10 a11 a12 a13 a14 a15:NA} {a16:Tree CV} (hg:guardOn all tm o=some true) (hfp:fpAny E o tm=[]) (ho:opAny E o tm ⟨.leaf,h.next,none⟩=some (v,⟨.leaf,h.next,none⟩)) (ht:putTmp tm o.dst v=(Tm.mk a0 a1 a2 a3 a4 a5 a6 a7 a8 a9 a10 a11 a12 a13 a14 a15 a16)) (w:W E (.draw bs all rest (i+1) recs) (Tm.mk a0 a1 a2 a3 a4 a5 a6 a7 a8 a9 a10 a11 a12 a13 a14 a15 a16) h Q):W E (.draw bs all (o::rest) i recs) tm h Q:=W.dop hg hfp ho (by rw[ht];exact w)
theorem W.doffn {a0 a1 a2 a3 a4 a5 a6 a7 a8 a9 a10 a11 a12 a13 a14 a15:NA} {a16:Tree CV} (hg:guardOn all tm o=some false) (ht:putTmp tm o.dst (.tup [])=(Tm.mk a0 a1 a2 a3 a4 a5 a6 a7 a8 a9 a10 a11 a12 a13 a14 a15 a16)) (w:W E (.draw bs all rest (i+1) recs) (Tm.mk a0 a1 a2 a3 a4 a5 a6 a7 a8 a9 a10 a11 a12 a13 a14 a15 a16) h Q):W E (.draw bs all (o::rest) i recs) tm h Q:=W.doff hg (by rw[ht];exact w)
end
end Go.CM

noncomputable section
namespace Go.CM
noncomputable def lk {α:Type}:List (Nat×α)->Nat->Option α
 |[],_=>none
 |p::r,t=>match Nat.beq p.1 t with
  |true=>some p.2
  |false=>lk r t
noncomputable def fnOf (f:Func):FnS:=⟨f.ntmps,f.results.toList,f.body⟩
section
variable {α:Type} {a b:Int} {h:α}
theorem op_lss:some (CV.bool (!intLe b a),h)=some (CV.bool (decide (a<b)),h):=by
 rw[intLe_eq];by_cases hx:a<b
 ·rw[decide_eq_true hx,decide_eq_false (by omega)];rfl
 ·rw[decide_eq_false hx,decide_eq_true (by omega)];rfl
theorem op_leq:some (CV.bool (intLe a b),h)=some (CV.bool (decide (a<=b)),h):=by rw[intLe_eq]
theorem op_eql:some (CV.bool (intEq a b),h)=some (CV.bool (decide (a=b)),h):=by
 rw[intEq_eq];by_cases hx:a=b
 ·rw[decide_eq_true hx];simp[hx]
 ·rw[decide_eq_false hx];simp[hx]
theorem op_neq:some (CV.bool (!intEq a b),h)=some (CV.bool (decide (a≠b)),h):=by
 rw[intEq_eq];by_cases hx:a=b
 ·rw[decide_eq_false (by simpa using hx)];simp[hx]
 ·rw[decide_eq_true hx];simp[hx]
theorem op_add (hl: -9223372036854775808<=a+b) (hu:a+b<=9223372036854775807):some (CV.int .i64 (IntKind.i64.wrap (a+b)),h)=some (CV.int .i64 (a+b),h):=by
 rw[show IntKind.i64.wrap (a+b)=a+b from IntWalk.i64_in _ (by omega)]
theorem op_sub (hl: -9223372036854775808<=a-b) (hu:a-b<=9223372036854775807):some (CV.int .i64 (IntKind.i64.wrap (a-b)),h)=some (CV.int .i64 (a-b),h):=by
 rw[show IntKind.i64.wrap (a-b)=a-b from IntWalk.i64_in _ (by omega)]
end
theorem Ext.put {h h':Heap} (x:Ext h h') {i:Nat} (hi:h.next<=i) (hi2:i<h'.next) (b:Blk):Ext h (h'.put i b):=⟨x.next,λj hj=>by
 rw[Heap.get_put,if_neg (by omega)];exact x.old j hj,λf k hk=>by
 have hk:h'.next<=k:=hk;rw[Heap.get_put,if_neg (by omega)];exact x.fr f k hk⟩
theorem put_same (h:Heap) (i:Nat) (b:Blk):(h.put i b).get i=some b:=by rw[Heap.get_put];simp
end Go.CM

noncomputable section
namespace Go.CM
theorem lk_mem {α:Type}:∀{l:List (Nat×α)} {t:Nat} {x:α},lk l t=some x->(t,x)∈l
 |[],_,_,h=>by cases h
 |p::r,t,x,h=>by
  unfold lk at h;cases hb:Nat.beq p.1 t with
  |true=>
   rw[hb]at h;have e:=Nat.eq_of_beq_eq_true hb;cases h;subst e;simp
  |false=>
   rw[hb]at h;exact List.mem_cons_of_mem _ (lk_mem h)
structure ArgB where
 blk:Nat
 off:Nat
 cs:List CV
def rhoA (g:Nat) (l:List ArgB):Rho:=⟨λi=>if i<g then some (i,0)else(l[i-g]?).map λb=>(b.blk,b.off),λ_=>0⟩
theorem hr_args {w:World} {g:Nat} {rows:List (Nat×List CV)} {l:List ArgB} (hg:g<=w.heap.size) (hrows:∀r∈rows,r.1<g/\r.2.all CV.plain=true) (hat:RowsAt w rows (rho0 g))
  (hl:∀b∈l,∃arr ty fz,w.heap[b.blk]? =some (.cells arr ty fz)/\b.off+b.cs.length<=arr.size/\VRs (rhoA g l) b.cs ((arr.toList.drop b.off).take b.cs.length)/\∀c∈b.cs,c.one=true):
  HR (rhoA g l) (heapOf g rows (l.map (·.cs))) w:=by
 have ro:∀(j:Nat) (b:Blk),(heapOf g rows (l.map (·.cs))).get j=some b->b.ro=true:=by
  intro j b hb;rcases heapOf_get hb with⟨_,_,_,_,rfl⟩|⟨_,_,rfl⟩<;>rfl
 refine⟨λj b hb=> ?_,λi j k d e bx cy hi hj hn _ _=> ?_,λj hj=> ?_,λj k d hj=> ?_⟩
 ·rcases heapOf_get hb with⟨n,cs,rfl,hn,rfl⟩|⟨cs,hmem,rfl⟩
  ·rw[List.getElem?_map,Option.map_eq_some_iff]at hn
   obtain⟨x,hx,rfl⟩:=hn;obtain⟨arr,ty,fz,r1,r2,r3,r4⟩:=hl x (List.mem_of_getElem? hx);refine⟨x.blk,x.off,?_,arr,ty,fz,r1,⟨r2,by show x.off+0<=arr.size;omega⟩,r3,r4,λe=>by cases e⟩;show(if g+n<g then _ else(l[g+n-g]?).map λb=>(b.blk,b.off))=_
   rw[if_neg (by omega),show g+n-g=n by omega,hx];rfl
  ·obtain⟨hlt,hpl⟩:=hrows _ hmem
   obtain⟨arr,ty,fz,r1,r2,r3,r4⟩:=hat _ hmem;refine⟨j,0,by show(if j<g then _ else _)=_;rw[if_pos hlt],arr,ty,fz,r1,⟨by simpa using r2,Nat.zero_le _⟩,by simpa using r3.plain hpl,r4,λe=>by cases e⟩
 ·rcases hn with hn|hn
  ·rw[ro i bx hi]at hn;cases hn
  ·rw[ro j cy hj]at hn;cases hn
 ·have hj:g+len (l.map (·.cs))<=j:=hj
  rw[len_eq,List.length_map]at hj;show(if j<g then _ else(l[j-g]?).map λb=>(b.blk,b.off))=none
  rw[if_neg (by omega),List.getElem?_eq_none (by omega)];rfl
 ·have hj:(if j<g then some (j,0)else(l[j-g]?).map λb=>(b.blk,b.off))=some (k,d):=hj
  split at hj
  ·cases hj;omega
  ·rw[Option.map_eq_some_iff]at hj
   obtain⟨x,hx,he⟩:=hj;obtain⟨arr,ty,fz,r1,_⟩:=hl x (List.mem_of_getElem? hx);cases he;exact(Array.getElem?_eq_some_iff.1 r1).1
theorem run_args {P:Program} {E:Env} {f:FuncId} {vs:List CV} {l:List ArgB} {v:CV} (W:EnvW P E) (hrun:CM.W E (.call (.fn f [] []) vs) .leaf (heapOf E.globs E.rows (l.map (·.cs))) (λr=>∃h',r= .val v h')) (hv:v.plain=true)
  {w:World} {xs:List Value} (hH:HR (rhoA E.globs l) (heapOf E.globs E.rows (l.map (·.cs))) w) (hx:VRs (rhoA E.globs l) vs xs):Calls P f xs.toArray w λe w'=>∃x,e= .returned x/\VR (rho0 E.globs) v x/\Keep (λ_=>False) w w':=by
 obtain⟨r,⟨N,e⟩,h',rfl⟩:=hrun;exact run_closed W (e N (Nat.le_refl _)) hv hH (λi hi=>by show(if i<E.globs then _ else _)=_;rw[if_pos hi]) hx
end Go.CM

noncomputable section
namespace Go.CM
theorem heapB_old:∀(bs:List (List CV)) (i:Nat) (t:Tree Blk) (j:Nat),j<i->(heapB bs i t).get j=t.get j
 |[],_,_,_,_=>rfl
 |c::bs,i,t,j,h=>by
  show(heapB bs (i+1) (t.set i (some (.cells c true)))).get j=_;rw[heapB_old bs (i+1) _ j (by omega),Tree.get_set,if_neg (by omega)]
theorem heapB_at:∀(bs:List (List CV)) (i:Nat) (t:Tree Blk) (n:Nat) (cs:List CV),bs[n]? =some cs->(heapB bs i t).get (i+n)=some (.cells cs true)
 |[],_,_,_,_,h=>by simp at h
 |c::bs,i,t,0,cs,h=>by
  show(heapB bs (i+1) (t.set i (some (.cells c true)))).get (i+0)=_;rw[heapB_old bs (i+1) _ _ (by omega),Tree.get_set,if_pos (by omega)];simp at h;rw[h]
 |c::bs,i,t,n+1,cs,h=>by
  show(heapB bs (i+1) (t.set i (some (.cells c true)))).get (i+(n+1))=_;rw[show i+(n+1)=(i+1)+n by omega];exact heapB_at bs (i+1) _ n cs (by simpa using h)
theorem heapOf_at {g:Nat} {rows:List (Nat×List CV)} {blks:List (List CV)} {n:Nat} {cs:List CV} (h:blks[n]? =some cs):(heapOf g rows blks).get (g+n)=some (.cells cs true):=heapB_at blks g _ n cs h
theorem heapOf_next {g:Nat} {rows:List (Nat×List CV)} {blks:List (List CV)}:(heapOf g rows blks).next=g+blks.length:=by
 show g+len blks=_;rw[len_eq]
theorem rows_at {g r:Nat} {cs:List CV} {blks:List (List CV)} (hr:r<g) (hc:cvsEq cs cs=true):rowsHold (heapOf g [(r,cs)] blks) [(r,cs)]=true:=by
 have e:(heapOf g [(r,cs)] blks).get r=some (.cells cs true):=by
  show(heapB blks g (Tree.leaf.set r (some (.cells cs true)))).get r=_;rw[heapB_old _ _ _ _ hr,Tree.get_set,if_pos rfl]
 unfold rowsHold;simp only[e,rowIs,hc];rfl
theorem trodAll_keep {H:Type} {enc:TypeId×Value->H} {P:Program} (hl:laidOutB P=true) {W W':World} (k:Keep (λ_=>False) W W'):∀(ts:List TypeId) (vs:List Value) (ds:List (DataW H)) (ps:List MemPlace),
  ts.all (λt=>P.readableRec t&&decide (t<P.types.size))=true->DataW.TrodAll enc P W 0 (λ_=>true) true ts vs ds ps->(∀p∈ps,p.block<W.heap.size)->DataW.TrodAll enc P W' 0 (λb=>decide (b<W.heap.size)) true ts vs ds ps
 |[],[],[],ps,_,h,_=>h
 |t::ts,v::vs,d::ds,ps,hr,h,hlt=>by
  obtain⟨p,q,h1,h2,rfl⟩:=h;rw[List.all_cons,Bool.and_eq_true,Bool.and_eq_true]at hr;refine⟨p,q,?_,trodAll_keep hl k ts vs ds q hr.2 h2 (λx hx=>hlt x (List.mem_append_right _ hx)),rfl⟩;have hB:RowKit.Below W.heap.size W {W' with tape:=W.tape}:=⟨k.os,rfl,k.out,k.size,λi hi=>k.same i hi (λh=>h)⟩
  obtain⟨fuel,hf⟩:=RowKit.Below.trod hl hr.1.1 (of_decide_eq_true hr.1.2) h1 hB (λx hx=>hlt x (List.mem_append_left _ hx));exact⟨fuel,by rw[<-hf];exact DataW.trod_heap (w:=W') (w':={W' with tape:=W.tape}) rfl fuel t _⟩
 |[],_::_,_,_,_,h,_=>h.elim
 |[],[],_::_,_,_,h,_=>h.elim
 |_::_,[],_,_,_,h,_=>h.elim
 |_::_,_::_,[],_,_,h,_=>h.elim
theorem post_inputs {H:Type} {enc:TypeId×Value->H} {P:Program} {f:Func} {s:ChangeSpec} {apart fresh handsOn:Bool} {w w':World} {args:Array Value} {ds gs:List (DataW H)} {before:List MemPlace} {t:TypeId} (hl:laidOutB P=true)
  (hr:f.params.toList.all (λt=>P.readableRec t&&decide (t<P.types.size))=true)
  (hW:DataW.Whole enc P f.params.toList s.vars apart w args.toList ds gs before) (hvs:s.vars=[]) (hrt:f.resultTypes.toList=[t]) (hrs:f.resultTypes.size=1) (ht:P.underlying t=some .bool)
  (hs:s.fn H ds={results:=[.lit (.bool true)],args:=ds}) (k:Keep (λ_=>False) w w'):s.post enc P f apart fresh handsOn false w args (.bool true) w':=by
 have hlt:=hW.lt;have hW':=hW;rw[hvs]at hW;obtain⟨p,q,h1,h2,rfl,_,_⟩:=hW;obtain⟨rfl,rfl⟩:=ChangeShapes.trodVars_none h2;refine⟨ds,[],_,[],p,[],hW',?_,?_,?_,kept_of_keep (λ_ h=>h) k _,λe=>by cases e⟩
 ·rw[hrt,hrs,List.append_nil,hs]
  exact ChangeShapes.trodAll_mk1 (RowKit.shut_bool ht true)
 ·rw[List.append_nil,hs]
  exact trodAll_keep hl k _ _ _ _ hr h1 (λx hx=>hlt x (List.mem_append_left _ hx))
 ·rw[hvs,List.append_nil,hs]
  rfl
end Go.CM

noncomputable section
namespace Go.CM
inductive PT where
 |int (k:IntKind)
 |bool
 |str
 |slice (e:PT)
 |struct (fs:List PT)
mutual
def PT.size:PT->Nat
 | .struct fs=>PT.sizes fs
 |_=>1
def PT.sizes:List PT->Nat
 |[]=>0
 |T::Ts=>T.size+PT.sizes Ts
end
inductive Dat where
 |int (n:Int)
 |bool (b:Bool)
 |str (s:List UInt8)
 |row (l:List Dat)
 |agg (l:List Dat)
inductive PTok (P:Program):PT->TypeId->Prop where
 |int {k:IntKind} {t:TypeId}:P.underlying t=some (.int k)->PTok P (.int k) t
 |bool {t:TypeId}:P.underlying t=some .bool->PTok P .bool t
 |str {t:TypeId}:P.underlying t=some .string->PTok P .str t
 |slice {e:PT} {t te:TypeId}:P.underlying t=some (.slice te)->P.cellsOf te=e.size->0<e.size->PTok P e te->PTok P (.slice e) t
 |struct {Ts:List PT} {t:TypeId} {fs:Array Field}:P.underlying t=some (.struct fs)->P.cellsOf t=PT.sizes Ts->fs.size=Ts.length->
  (∀(i:Nat) (T:PT) (f:Field),Ts[i]? =some T->fs[i]? =some f->f.offset=PT.sizes (Ts.take i))->(∀(i:Nat) (T:PT) (f:Field),Ts[i]? =some T->fs[i]? =some f->P.cellsOf f.type=T.size)->
  (∀(i:Nat) (T:PT) (f:Field),Ts[i]? =some T->fs[i]? =some f->PTok P T f.type)->PTok P (.struct Ts) t
inductive Rep (h:Heap):PT->List CV->Dat->Prop where
 |int (k:IntKind) (n:Int) (hw:(Lit.int k n).wf=true):Rep h (.int k) [.int k n] (.int n)
 |bool (b:Bool):Rep h .bool [.bool b] (.bool b)
 |str (s:List UInt8) (hl:s.length<=9223372036854775807):Rep h .str [.str s] (.str s)
 |nil (e:PT):Rep h (.slice e) [.slice none 0 0 0] (.row [])
 |emp (e:PT):Rep h (.slice e) [.empty] (.row [])
 |row (e:PT) (i c:Nat) (vss:List (List CV)) (ds:List Dat) (hi:i<h.next) (hg:h.get i=some (.cells vss.flatten true)) (hl:ds.length=vss.length) (h0:0<vss.length) (hc:vss.length<=c) (hm:c<=9223372036854775807)
  (hz:∀vs∈vss,vs.length=e.size) (hr:∀(j:Nat) (vs:List CV) (d:Dat),vss[j]? =some vs->ds[j]? =some d->Rep h e vs d):Rep h (.slice e) [.slice (some (i,0)) vss.length c 0] (.row ds)
 |struct (Ts:List PT) (vss:List (List CV)) (ds:List Dat) (h1:vss.length=Ts.length) (h2:ds.length=Ts.length)
  (hr:∀(j:Nat) (T:PT) (vs:List CV) (d:Dat),Ts[j]? =some T->vss[j]? =some vs->ds[j]? =some d->Rep h T vs d):Rep h (.struct Ts) vss.flatten (.agg ds)
def ArgOk (W:World) (b:ArgB):Prop:=∃arr ty fz,W.heap[b.blk]? =some (.cells arr ty fz)/\b.off+b.cs.length<=arr.size/\∀c∈b.cs,c.one=true
def ArgVR (W:World) (ρ:Rho) (b:ArgB):Prop:=∀arr ty fz,W.heap[b.blk]? =some (.cells arr ty fz)->VRs ρ b.cs ((arr.toList.drop b.off).take b.cs.length)
def Placed (ρ:Rho) (base:Nat) (bs:List ArgB):Prop:=∀(n:Nat) (b:ArgB),bs[n]? =some b->ρ (base+n)=some (b.blk,b.off)
def Laid (h:Heap) (base:Nat) (bs:List ArgB):Prop:=∀(n:Nat) (b:ArgB),bs[n]? =some b->base+n<h.next/\h.get (base+n)=some (.cells b.cs true)
theorem Placed.split {ρ:Rho} {base:Nat} {a b:List ArgB} (p:Placed ρ base (a++b)):Placed ρ base a/\Placed ρ (base+a.length) b:=by
 refine⟨λn x hx=>p n x ?_,λn x hx=> ?_⟩
 ·rw[List.getElem?_append_left (List.getElem?_eq_some_iff.1 hx).1];exact hx
 ·have:=p (a.length+n) x (by rw[List.getElem?_append_right (by omega),show a.length+n-a.length=n by omega];exact hx)
  rwa[<-Nat.add_assoc]at this
theorem Laid.split {h:Heap} {base:Nat} {a b:List ArgB} (p:Laid h base (a++b)):Laid h base a/\Laid h (base+a.length) b:=by
 refine⟨λn x hx=>p n x ?_,λn x hx=> ?_⟩
 ·rw[List.getElem?_append_left (List.getElem?_eq_some_iff.1 hx).1];exact hx
 ·have:=p (a.length+n) x (by rw[List.getElem?_append_right (by omega),show a.length+n-a.length=n by omega];exact hx)
  rwa[<-Nat.add_assoc]at this
structure Opened (W:World) (base:Nat) (T:PT) (cs:List Value) (vs:List CV) (bs:List ArgB) (d:Dat):Prop where
 len:vs.length=T.size
 one:∀c∈vs,c.one=true
 ok:∀b∈bs,ArgOk W b
 vr:∀ρ,Placed ρ base bs->VRs ρ vs cs/\∀b∈bs,ArgVR W ρ b
 rep:∀h,Laid h base bs->Rep h T vs d
structure OpenedL (W:World) (base:Nat) (items:List (PT×List Value)) (vss:List (List CV)) (bs:List ArgB) (ds:List Dat):Prop where
 len1:vss.length=items.length
 len2:ds.length=items.length
 len:∀(i:Nat) (it:PT×List Value) (vs:List CV),items[i]? =some it->vss[i]? =some vs->vs.length=it.1.size
 one:∀c∈vss.flatten,c.one=true
 ok:∀b∈bs,ArgOk W b
 vr:∀ρ,Placed ρ base bs->VRs ρ vss.flatten (items.map (·.2)).flatten/\∀b∈bs,ArgVR W ρ b
 rep:∀h,Laid h base bs->∀(i:Nat) (it:PT×List Value) (vs:List CV) (d:Dat),items[i]? =some it->vss[i]? =some vs->ds[i]? =some d->Rep h it.1 vs d
theorem open_items {W:World}:∀(items:List (PT×List Value)),(∀it∈items,∀base,∃vs bs d,Opened W base it.1 it.2 vs bs d)->∀base,∃vss bs ds,OpenedL W base items vss bs ds
 |[],_,base=>⟨[],[],[],rfl,rfl,λi it vs h=>by simp at h,λc hc=>by simp at hc,λb hb=>by simp at hb,λρ _=>⟨VRs.nil ρ,λb hb=>by simp at hb⟩,λh _ i it vs d hi=>by simp at hi⟩
 |it::items,hit,base=>by
  obtain⟨vs0,bs0,d0,o⟩:=hit it (by simp) base;obtain⟨vss,bs,ds,O⟩:=open_items items (λx hx=>hit x (List.mem_cons_of_mem _ hx)) (base+bs0.length);refine⟨vs0::vss,bs0++bs,d0::ds,by simp[O.len1],by simp[O.len2],λi x vs h1 h2=> ?_,λc hc=> ?_,λb hb=> ?_,λρ p=>⟨?_,λb hb=> ?_⟩,λh p i x vs d h1 h2 h3=> ?_⟩
  ·cases i with
   |zero=>simp at h1 h2;subst h1 h2;exact o.len
   |succ i=>exact O.len i x vs (by simpa using h1) (by simpa using h2)
  ·rw[List.flatten_cons,List.mem_append]at hc
   exact hc.elim (o.one c) (O.one c)
  ·rcases List.mem_append.1 hb with hb|hb
   ·exact o.ok b hb
   ·exact O.ok b hb
  ·rw[List.flatten_cons,List.map_cons,List.flatten_cons]
   exact(o.vr ρ p.split.1).1.append (O.vr ρ p.split.2).1
  ·rcases List.mem_append.1 hb with hb|hb
   ·exact(o.vr ρ p.split.1).2 b hb
   ·exact(O.vr ρ p.split.2).2 b hb
  ·cases i with
   |zero=>simp at h1 h2 h3;subst h1 h2 h3;exact o.rep h p.split.1
   |succ i=>exact O.rep h p.split.2 i x vs d (by simpa using h1) (by simpa using h2) (by simpa using h3)
theorem pieces_flat {α:Type}:∀(Ts:List PT) (cs:List α),cs.length=PT.sizes Ts->((List.range Ts.length).map λi=>((cs.drop (PT.sizes (Ts.take i))).take ((Ts.getD i .bool).size))).flatten=cs
 |[],cs,h=>by
  have:cs=[]:=List.eq_nil_of_length_eq_zero (by simpa[PT.sizes]using h);subst this;rfl
 |T::Ts,cs,h=>by
  have h:cs.length=T.size+PT.sizes Ts:=by simpa[PT.sizes]using h
  rw[List.length_cons,List.range_succ_eq_map,List.map_cons,List.flatten_cons,List.map_map];have ih:=pieces_flat Ts (cs.drop T.size) (by rw[List.length_drop];omega)
  have e:((λi=>((cs.drop (PT.sizes ((T::Ts).take i))).take (((T::Ts).getD i .bool).size)))∘Nat.succ)=λi=>(((cs.drop T.size).drop (PT.sizes (Ts.take i))).take ((Ts.getD i .bool).size)):=by
   funext i
   simp only[Function.comp,Nat.succ_eq_add_one,List.take_succ_cons,PT.sizes,List.getD_cons_succ,List.drop_drop]
  rw[e,ih];simp[PT.sizes]
theorem chunks_flat {α:Type} (z:Nat):∀(n:Nat) (cs:List α),n*z<=cs.length->((List.range n).map λi=>((cs.drop (i*z)).take z)).flatten=cs.take (n*z)
 |0,cs,_=>by simp
 |n+1,cs,h=>by
  have e1:(n+1)*z=z+n*z:=by rw[Nat.succ_mul];omega
  rw[e1]at h ⊢;rw[List.range_succ_eq_map,List.map_cons,List.flatten_cons,List.map_map];have ih:=chunks_flat z n (cs.drop z) (by rw[List.length_drop];omega)
  have e:((λi=>((cs.drop (i*z)).take z))∘Nat.succ)=λi=>(((cs.drop z).drop (i*z)).take z):=by
   funext i
   simp only[Function.comp,Nat.succ_eq_add_one,List.drop_drop]
   congr 2
   rw[Nat.succ_mul];omega
  rw[e,ih,Nat.zero_mul,List.drop_zero,List.take_add]
theorem open_pt {H:Type} {enc:TypeId×Value->H} {P:Program} {W:World} {sp:Nat->Bool} {hd:Bool} {T:PT} {t:TypeId} (ok:PTok P T t):
  ∀(fuel:Nat) (cs:List Value) (y:DataW H×List MemPlace),DataW.trod enc P W 0 sp hd fuel t cs=some y->∀base,∃vs bs d,Opened W base T cs vs bs d:=by
 induction ok with
 |int ht=>
  rename_i k t;intro fuel cs y h base;obtain⟨n,rfl,_,hw⟩:=DataW.trod_int ht h;exact⟨[.int k n],[],.int n,rfl,λc hc=>by simp at hc;subst hc;rfl,λb hb=>by simp at hb,λρ _=>⟨VRs.cons (.int _ _) (VRs.nil _),λb hb=>by simp at hb⟩,λh _=> .int k n hw⟩
 |bool ht=>
  intro fuel cs y h base;obtain⟨b,rfl,_⟩:=DataW.trod_bool ht h;exact⟨[.bool b],[],.bool b,rfl,λc hc=>by simp at hc;subst hc;rfl,λb hb=>by simp at hb,λρ _=>⟨VRs.cons (.bool _) (VRs.nil _),λb hb=>by simp at hb⟩,λh _=> .bool b⟩
 |str ht=>
  intro fuel cs y h base;obtain⟨s,rfl,_,hs⟩:=DataW.trod_string ht h
  have hs:s.data.toList.length<=9223372036854775807:=by
   have e:s.data.toList.length=s.size:=by rw[Array.length_toList];rfl
   rw[e];exact hs
  exact⟨[.str s.data.toList],[],.str s.data.toList,rfl,λc hc=>by simp at hc;subst hc;rfl,λb hb=>by simp at hb,λρ _=>⟨VRs.cons (.str _) (VRs.nil _),λb hb=>by simp at hb⟩,λh _=> .str _ hs⟩
 |struct ht hz hlen hf1 hf2 hf3 ih=>
  rename_i Ts t fs;intro fuel cs y h base;obtain⟨xs,m,_,_,hl,hxl,hx⟩:=DataW.trod_struct ht h;have hl:cs.length=PT.sizes Ts:=hl.trans hz;obtain⟨items,hitems⟩:∃items,items=(List.range Ts.length).map λi=>(Ts.getD i .bool,((cs.drop (PT.sizes (Ts.take i))).take ((Ts.getD i .bool).size))):=⟨_,rfl⟩
  have hget:∀(i:Nat) (it:PT×List Value),items[i]? =some it->∃T,Ts[i]? =some T/\it=(T,(cs.drop (PT.sizes (Ts.take i))).take T.size):=by
   intro i it hi;rw[hitems,List.getElem?_map,Option.map_eq_some_iff]at hi;obtain⟨j,hj,rfl⟩:=hi;have hjl:i<Ts.length:=by simpa using(List.getElem?_eq_some_iff.1 hj).1
   rw[List.getElem?_range hjl]at hj;cases hj;exact⟨Ts[i],by simp[hjl],by simp[List.getD_eq_getElem?_getD,hjl]⟩
  obtain⟨vss,bs,ds,O⟩:=open_items (W:=W) items (λit hit base=>by
   obtain⟨i,hi⟩:=List.getElem?_of_mem hit;obtain⟨T,hT,rfl⟩:=hget i it hi;have hil:i<Ts.length:=(List.getElem?_eq_some_iff.1 hT).1;have hfi:fs[i]? =some fs[i]:=by simp[show i<fs.size by omega]
   have e1:=hf1 i T _ hT hfi;have e2:=hf2 i T _ hT hfi;have hxi:=hx i _ hfi;rw[e1,e2,List.getElem?_eq_getElem (by omega)]at hxi;exact ih i T _ hT hfi m _ _ hxi base) base
  have hil:items.length=Ts.length:=by rw[hitems];simp
  have hflat:(items.map (·.2)).flatten=cs:=by
   rw[hitems,List.map_map];exact pieces_flat Ts cs hl
  refine⟨vss.flatten,bs,.agg ds,?_,O.one,O.ok,λρ p=> ?_,λh p=> .struct Ts vss ds (O.len1.trans hil) (O.len2.trans hil) λj T vs d h1 h2 h3=> ?_⟩
  ·have hv:=(VRs.nil (rho0 0)).1
   show vss.flatten.length=PT.sizes Ts
   have:∀(Ts:List PT) (vss:List (List CV)),vss.length=Ts.length->(∀(i:Nat) (T:PT) (vs:List CV),Ts[i]? =some T->vss[i]? =some vs->vs.length=T.size)->vss.flatten.length=PT.sizes Ts:=by
    intro Ts
    induction Ts with
    |nil=>intro vss hl _;have:vss=[]:=List.eq_nil_of_length_eq_zero hl;subst this;simp[PT.sizes]
    |cons T Ts ih=>
     intro vss hl hh;cases vss with
     |nil=>simp at hl
     |cons vs vss=>
      rw[List.flatten_cons,List.length_append,hh 0 T vs rfl rfl,ih vss (by simpa using hl) (λi T' vs' h1 h2=>hh (i+1) T' vs' (by simpa using h1) (by simpa using h2))];simp[PT.sizes]
   refine this Ts vss (O.len1.trans hil) λi T vs h1 h2=> ?_;obtain⟨it0,hii⟩:∃it0,items[i]? =some it0:=⟨_,List.getElem?_eq_getElem (by rw[hil];exact(List.getElem?_eq_some_iff.1 h1).1)⟩;obtain⟨T',hT',e⟩:=hget i _ hii;rw[h1]at hT';cases hT';have:=O.len i _ vs hii h2;rw[this,e]
  ·have:=O.vr ρ p
   rw[hflat]at this;exact this
  ·obtain⟨it0,hii⟩:∃it0,items[j]? =some it0:=⟨_,List.getElem?_eq_getElem (by rw[hil];exact(List.getElem?_eq_some_iff.1 h1).1)⟩
   obtain⟨T',hT',e⟩:=hget j _ hii;rw[h1]at hT';cases hT';have:=O.rep h p j _ vs d hii h2 h3;rw[e]at this;exact this
 |slice ht hz hpos hok ih=>
  rename_i e t te;intro fuel cs y h base;rcases DataW.trod_slice ht h with⟨rfl,_⟩|⟨a,len,cap,elems,rest,m,_,rfl,_,_,hlc,hcap,hel,hE,_,_⟩
  ·exact⟨[.slice none 0 0 0],[],.row [],rfl,λc hc=>by simp at hc;subst hc;rfl,λb hb=>by simp at hb,λρ _=>⟨VRs.cons (.nilslice 0 0 0 0 (Nat.le_refl _) (λ_=>rfl) (Nat.le_refl _) (by omega)) (VRs.nil _),λb hb=>by simp at hb⟩,λh _=> .nil e⟩
  have hm:cap<=9223372036854775807:=hcap;rcases Nat.eq_zero_or_pos len with h00|hlen
  ·subst h00
   exact⟨[.empty],[],.row [],rfl,λc hc=>by simp at hc;subst hc;rfl,λb hb=>by simp at hb,λρ _=>⟨VRs.cons (.empty a cap hm) (VRs.nil _),λb hb=>by simp at hb⟩,λh _=> .emp e⟩
  rw[hz]at hE
  have hcell:∀i,i<len->∃cs',W.cells? 0 (a.add (i*e.size)) e.size=some cs'/\∃y,DataW.trod enc P W 0 sp hd m te cs'=some y:=by
   intro i hi;have hx:=hE i hi;rw[List.getElem?_eq_getElem (by omega)]at hx;obtain⟨cs',h1,h2⟩:=Option.bind_eq_some_iff.1 hx;exact⟨cs',h1,_,h2⟩
  have ea:∀b:Addr,b.add 0=b:=λb=>by unfold Addr.add;simp
  obtain⟨cs0,hc0,_⟩:=hcell 0 hlen;obtain⟨_,hl0,hcc⟩:=World.cells?_some hc0;have hk0:=hcc 0 hpos;rw[ea,Nat.zero_mul,ea,List.getElem?_eq_getElem (by omega)]at hk0;obtain⟨blk,off,spot⟩:=a
  obtain⟨arr,ty,fz,hw,hsp⟩:∃arr ty fz,W.heap[blk]? =some (.cells arr ty fz)/\spot=none:=by
   unfold World.cell? at hk0;cases hh:W.heap[blk]? with
   |none=>rw[hh]at hk0;cases hk0
   |some o=>
    rw[hh]at hk0;cases o with
    |cells arr ty fz=>
     simp only at hk0;cases spot with
     |none=>exact⟨arr,ty,fz,rfl,rfl⟩
     |some s=>simp at hk0
    |_=>cases hk0
  subst hsp
  have hsize:∀i k,i<len->k<e.size->off+i*e.size+k<arr.size:=by
   intro i k hi hk;obtain⟨cs',h1,_⟩:=hcell i hi;obtain⟨_,hl,hcc⟩:=World.cells?_some h1;have:=hcc k hk
   have ee:((Addr.mk blk off none).add (i*e.size)).add k=⟨blk,off+i*e.size+k,none⟩:=by
    rw[show(Addr.mk blk off none).add (i*e.size)=⟨blk,off+i*e.size,none⟩from mk_add _ _ _];exact mk_add _ _ _
   rw[ee]at this;unfold World.cell? at this;rw[hw,List.getElem?_eq_getElem (by omega)]at this;have this:arr[off+i*e.size+k]? =some (cs'[k]'(by omega)):=by simpa using this
   exact(Array.getElem?_eq_some_iff.1 this).1
  have hall:len*e.size<=(arr.toList.drop off).length:=by
   have:=hsize (len-1) (e.size-1) (by omega) (by omega);obtain⟨n,rfl⟩:∃n,len=n+1:=⟨len-1,by omega⟩;rw[Nat.add_sub_cancel]at this;rw[List.length_drop,Array.length_toList,Nat.succ_mul];omega
  have hchunk:∀i,i<len->W.cells? 0 ((Addr.mk blk off none).add (i*e.size)) e.size=some (((arr.toList.drop off).drop (i*e.size)).take e.size):=by
   intro i hi;obtain⟨cs',h1,_⟩:=hcell i hi;rw[h1]
   congr 1
   obtain⟨_,hl,hcc⟩:=World.cells?_some h1;apply List.ext_getElem?;intro k;by_cases hk:k<e.size
   ·rw[<-hcc k hk]
    have ee:((Addr.mk blk off none).add (i*e.size)).add k=⟨blk,off+i*e.size+k,none⟩:=by
     rw[show(Addr.mk blk off none).add (i*e.size)=⟨blk,off+i*e.size,none⟩from mk_add _ _ _];exact mk_add _ _ _
    rw[ee,List.getElem?_take,if_pos hk,List.getElem?_drop,List.getElem?_drop,Array.getElem?_toList];unfold World.cell?;rw[hw];simp[Nat.add_assoc]
   ·rw[List.getElem?_eq_none (by omega),List.getElem?_take,if_neg hk]
  obtain⟨items,hitems⟩:∃items:List (PT×List Value),items=(List.range len).map λi=>(e,((arr.toList.drop off).drop (i*e.size)).take e.size):=⟨_,rfl⟩
  have hget:∀(i:Nat) (it:PT×List Value),items[i]? =some it->i<len/\it=(e,((arr.toList.drop off).drop (i*e.size)).take e.size):=by
   intro i it hi;rw[hitems,List.getElem?_map,Option.map_eq_some_iff]at hi;obtain⟨j,hj,rfl⟩:=hi;have hjl:i<len:=by simpa using(List.getElem?_eq_some_iff.1 hj).1
   rw[List.getElem?_range hjl]at hj;cases hj;exact⟨hjl,rfl⟩
  obtain⟨vss,bs,ds,O⟩:=open_items (W:=W) items (λit hit base=>by
   obtain⟨i,hi⟩:=List.getElem?_of_mem hit;obtain⟨hil,rfl⟩:=hget i it hi;obtain⟨cs',h1,y,h2⟩:=hcell i hil;rw[hchunk i hil]at h1;cases h1;exact ih m _ y h2 base) (base+1)
  have hil:items.length=len:=by rw[hitems];simp
  have hv:vss.length=len:=O.len1.trans hil
  have hflat:(items.map (·.2)).flatten=(arr.toList.drop off).take (len*e.size):=by
   rw[hitems,List.map_map];exact chunks_flat e.size len _ hall
  have hz:∀vs∈vss,vs.length=e.size:=by
   intro vs hvs;obtain⟨i,hi⟩:=List.getElem?_of_mem hvs;obtain⟨it0,hii⟩:∃it0,items[i]? =some it0:=⟨_,List.getElem?_eq_getElem (by rw[hil,<-hv];exact(List.getElem?_eq_some_iff.1 hi).1)⟩;obtain⟨_,e1⟩:=hget i _ hii;have:=O.len i _ vs hii hi;rw[this,e1]
  have hfl:vss.flatten.length=len*e.size:=by
   rw[<-hv];clear O hv hitems hget hil hflat
   induction vss with
   |nil=>simp
   |cons v vss ihv=>rw[List.flatten_cons,List.length_append,hz v (by simp),ihv (λx hx=>hz x (List.mem_cons_of_mem _ hx)),List.length_cons,Nat.succ_mul];omega
  refine⟨[.slice (some (base,0)) len cap 0],⟨blk,off,vss.flatten⟩::bs,.row ds,rfl,λc hc=>by simp at hc;subst hc;rfl,λb hb=> ?_,λρ p=> ?_,λh p=> ?_⟩
  ·rcases List.mem_cons.1 hb with rfl|hb
   ·refine⟨arr,ty,fz,hw,?_,O.one⟩
    rw[List.length_drop,Array.length_toList]at hall;show off+vss.flatten.length<=arr.size;rw[hfl];have:=hsize 0 0 hlen hpos;omega
   ·exact O.ok b hb
  ·have p2:Placed ρ base ([⟨blk,off,vss.flatten⟩]++bs):=p
   have q:=O.vr ρ p2.split.2;have hb0:ρ base=some (blk,off):=p 0 _ rfl;refine⟨VRs.cons (VR.slice base 0 len cap 0 blk off cap hb0 (Nat.le_refl _) (λ_=>rfl) (λh=>absurd rfl h) hlc hm) (VRs.nil _),λb hb=> ?_⟩;rcases List.mem_cons.1 hb with rfl|hb
   ·intro arr' ty' fz' hw'
    rw[hw]at hw';cases hw';have q1:=q.1;rw[hflat]at q1;show VRs ρ vss.flatten ((arr.toList.drop off).take vss.flatten.length);rw[hfl];exact q1
   ·exact q.2 b hb
  ·have p2:Laid h base ([⟨blk,off,vss.flatten⟩]++bs):=p
   obtain⟨hi,hg⟩:=p 0 _ rfl
   have r:=Rep.row (h:=h) e base cap vss ds hi hg (by rw[O.len2,hil,hv]) (by omega) (by omega) hm hz λj vs d h1 h2=>by
    obtain⟨it0,hii⟩:∃it0,items[j]? =some it0:=⟨_,List.getElem?_eq_getElem (by rw[hil,<-hv];exact(List.getElem?_eq_some_iff.1 h1).1)⟩;obtain⟨_,e1⟩:=hget j _ hii;have:=O.rep h p2.split.2 j _ vs d hii h1 h2;rw[e1]at this;exact this
   rw[hv]at r;exact r
def ptB (P:Program):Nat->PT->TypeId->Bool
 |0,_,_=>false
 |n+1,T,t=>match T,P.underlying t with
  | .int k,some (.int k')=>decide (k'=k)
  | .bool,some .bool=>true
  | .str,some .string=>true
  | .slice e,some (.slice te)=>Nat.beq (P.cellsOf te) e.size&&(Nat.blt 0 e.size&&ptB P n e te)
  | .struct Ts,some (.struct fs)=>Nat.beq (P.cellsOf t) (PT.sizes Ts)&&(Nat.beq fs.size Ts.length&&(List.range Ts.length).all λi=>match Ts[i]?,fs[i]? with
    |some T,some f=>Nat.beq f.offset (PT.sizes (Ts.take i))&&(Nat.beq (P.cellsOf f.type) T.size&&ptB P n T f.type)
    |_,_=>false)
  |_,_=>false
theorem ptB_ok {P:Program}:∀(n:Nat) (T:PT) (t:TypeId),ptB P n T t=true->PTok P T t
 |0,_,_,h=>by cases h
 |n+1,T,t,h=>by
  unfold ptB at h;split at h
  ·rename_i ht;exact .int (by rw[ht,of_decide_eq_true h])
  ·rename_i ht;exact .bool ht
  ·rename_i ht;exact .str ht
  ·rename_i ht
   rw[Bool.and_eq_true,Bool.and_eq_true]at h;exact .slice ht (Nat.eq_of_beq_eq_true h.1) (by have:=h.2.1;rw[Nat.blt_eq]at this;exact this) (ptB_ok n _ _ h.2.2)
  ·rename_i Ts fs ht
   rw[Bool.and_eq_true,Bool.and_eq_true]at h
   have key:∀(i:Nat) (T:PT) (f:Field),Ts[i]? =some T->fs[i]? =some f->f.offset=PT.sizes (Ts.take i)/\P.cellsOf f.type=T.size/\PTok P T f.type:=λi T f h1 h2=>by
    have:=List.all_eq_true.1 h.2.2 i (by rw[List.mem_range];exact(List.getElem?_eq_some_iff.1 h1).1);rw[h1,h2]at this;simp only[Bool.and_eq_true]at this;exact⟨Nat.eq_of_beq_eq_true this.1,Nat.eq_of_beq_eq_true this.2.1,ptB_ok n T f.type this.2.2⟩
   exact .struct ht (Nat.eq_of_beq_eq_true h.1) (Nat.eq_of_beq_eq_true h.2.1) (λi T f h1 h2=>(key i T f h1 h2).1) (λi T f h1 h2=>(key i T f h1 h2).2.1) (λi T f h1 h2=>(key i T f h1 h2).2.2)
  ·cases h
end Go.CM
