/- Runs of the plain machine, put together: what a piece of code comes to when there is fuel enough. No condition. -/
import Derived.Test.YtmgpjfnlciapkaaGreatDoorCmE
set_option linter.unusedVariables false
set_option linter.unusedSimpArgs false
noncomputable section
namespace Go.CM
def Evl (E:Env) (t:Task) (tm:Tm) (h:Heap) (r:R):Prop:=∃N,∀m,N<=m->run E m t tm h=r
section
variable {E:Env} {t:Task} {tm tm1:Tm} {h h1:Heap} {r r1:R} {a b:Code} {all rest:List Oper} {o:Oper} {v:CV}
theorem Evl.step (e:∃N,∀m,N<=m->stepR E (run E m) t tm h=r):Evl E t tm h r:=by
 obtain⟨N,hN⟩:=e
 refine⟨N+1,λm hm=> ?_⟩
 obtain⟨m,rfl⟩:∃k,m=k+1:=⟨m-1,by omega⟩
 exact hN m (by omega)
theorem Evl.skip:Evl E (.code .skip) tm h (.code .normal tm h):= .step ⟨0,λ_ _=>rfl⟩
theorem Evl.ret:Evl E (.code .ret) tm h (.code .ret tm h):= .step ⟨0,λ_ _=>rfl⟩
theorem Evl.exit {i:Nat}:Evl E (.code (.exit i)) tm h (.code (.exit i) tm h):= .step ⟨0,λ_ _=>rfl⟩
theorem Evl.seq (h1':Evl E (.code a) tm h (.code .normal tm1 h1)) (h2:Evl E (.code b) tm1 h1 r):Evl E (.code (.seq a b)) tm h r:=by
 obtain⟨N1,e1⟩:=h1'
 obtain⟨N2,e2⟩:=h2
 refine .step ⟨max N1 N2,λm hm=> ?_⟩
 show kSeq (run E m) b (run E m (.code a) tm h)=r
 rw[e1 m (by omega)]
 exact e2 m (by omega)
theorem Evl.seq_out (h1':Evl E (.code a) tm h r) (ho:∀f,kSeq f b r=r):Evl E (.code (.seq a b)) tm h r:=by
 obtain⟨N1,e1⟩:=h1'
 refine .step ⟨N1,λm hm=> ?_⟩
 show kSeq (run E m) b (run E m (.code a) tm h)=r
 rw[e1 m hm,ho]
theorem Evl.cond {c:Operand} {x:Bool} (hc:cvOf E.globs tm c= .bool x) (ht:x=true->Evl E (.code a) tm h r) (hf:x=false->Evl E (.code b) tm h r):Evl E (.code (.cond c a b)) tm h r:=by
 cases x with
 |true=>
  obtain⟨N,e⟩:=ht rfl
  refine .step ⟨N,λm hm=> ?_⟩
  show kCond (run E m) a b tm h (cvOf E.globs tm c)=r
  rw[hc];exact e m hm
 |false=>
  obtain⟨N,e⟩:=hf rfl
  refine .step ⟨N,λm hm=> ?_⟩
  show kCond (run E m) a b tm h (cvOf E.globs tm c)=r
  rw[hc];exact e m hm
theorem Evl.block {i:Nat} (h1':Evl E (.code b) tm h r1) (hr:kBlock i r1=r):Evl E (.code (.block i b)) tm h r:=by
 obtain⟨N1,e1⟩:=h1'
 refine .step ⟨N1,λm hm=> ?_⟩
 show kBlock i (run E m (.code b) tm h)=r
 rw[e1 m hm,hr]
theorem Evl.loop (h1':Evl E (.code b) tm h (.code .normal tm1 h1)) (h2:Evl E (.code (.loop b)) tm1 h1 r):Evl E (.code (.loop b)) tm h r:=by
 obtain⟨N1,e1⟩:=h1'
 obtain⟨N2,e2⟩:=h2
 refine .step ⟨max N1 N2,λm hm=> ?_⟩
 show kSeq (run E m) (.loop b) (run E m (.code b) tm h)=r
 rw[e1 m (by omega)]
 exact e2 m (by omega)
theorem Evl.loop_out (h1':Evl E (.code b) tm h r) (ho:∀f,kSeq f (.loop b) r=r):Evl E (.code (.loop b)) tm h r:=by
 obtain⟨N1,e1⟩:=h1'
 refine .step ⟨N1,λm hm=> ?_⟩
 show kSeq (run E m) (.loop b) (run E m (.code b) tm h)=r
 rw[e1 m hm,ho]
theorem Evl.region {l:Nat} {ops:Array Oper} (h1':Evl E (.ops ops.toList ops.toList) tm h r):Evl E (.code (.region l ops false)) tm h r:=by
 obtain⟨N1,e1⟩:=h1'
 exact .step ⟨N1,λm hm=>e1 m hm⟩
theorem Evl.draws {l:Nat} {ops:Array Oper} (h1':Evl E (.draw (aheads ops.toList []) ops.toList ops.toList 0 []) tm h r):Evl E (.code (.region l ops true)) tm h r:=by
 obtain⟨N1,e1⟩:=h1'
 exact .step ⟨N1,λm hm=>e1 m hm⟩
theorem Evl.nil:Evl E (.ops all []) tm h (.code .normal tm h):= .step ⟨0,λ_ _=>rfl⟩
def opAny (E:Env) (o:Oper) (tm:Tm) (h:Heap):Option (CV×Heap):=match o.op with
 | .call c=>match isBuiltin c.callee with
   |some b=>builtinV E h b c.argTypes.toList (c.args.toList.map (cvOf E.globs tm))
   |none=>none
 | .panic _=>none
 |_=>opVal E o.op (cvOf E.globs tm) h
theorem Evl.op (hg:guardOn all tm o=some true) (ho:opAny E o tm h=some (v,h1)) (h2:Evl E (.ops all rest) (putTmp tm o.dst v) h1 r):Evl E (.ops all (o::rest)) tm h r:=by
 obtain⟨N,e⟩:=h2
 refine .step ⟨N,λm hm=> ?_⟩
 show(match guardOn all tm o with
  |some true=>sOp E (run E m) all rest o tm h
  |some false=>run E m (.ops all rest) (putTmp tm o.dst (.tup [])) h
  |none=> .stop)=r
 rw[hg]
 show sOp E (run E m) all rest o tm h=r
 unfold opAny at ho
 unfold sOp
 split at ho
 ·rename_i c hc
  rw[hc]
  simp only
  split at ho
  ·rename_i b hb
   rw[hb]
   simp only
   rw[ho]
   exact e m hm
  ·cases ho
 ·cases ho
 ·rename_i hc hp
  split
  ·rename_i c hcc;exact absurd hcc (hc c)
  ·rename_i x hx;exact absurd hx (hp x)
  ·rw[ho];exact e m hm
theorem Evl.off (hg:guardOn all tm o=some false) (h2:Evl E (.ops all rest) (putTmp tm o.dst (.tup [])) h r):Evl E (.ops all (o::rest)) tm h r:=by
 obtain⟨N,e⟩:=h2
 refine .step ⟨N,λm hm=> ?_⟩
 show(match guardOn all tm o with
  |some true=>sOp E (run E m) all rest o tm h
  |some false=>run E m (.ops all rest) (putTmp tm o.dst (.tup [])) h
  |none=> .stop)=r
 rw[hg]
 exact e m hm
theorem Evl.call {c:Call} {f:Operand} (hg:guardOn all tm o=some true) (hc:o.op= .call c) (hf:c.callee= .value f) (h1':Evl E (.call (cvOf E.globs tm f) (c.args.toList.map (cvOf E.globs tm))) .leaf h (.val v h1))
  (h2:Evl E (.ops all rest) (putTmp tm o.dst v) h1 r):Evl E (.ops all (o::rest)) tm h r:=by
 obtain⟨N1,e1⟩:=h1'
 obtain⟨N2,e2⟩:=h2
 refine .step ⟨max N1 N2,λm hm=> ?_⟩
 show(match guardOn all tm o with
  |some true=>sOp E (run E m) all rest o tm h
  |some false=>run E m (.ops all rest) (putTmp tm o.dst (.tup [])) h
  |none=> .stop)=r
 rw[hg]
 show sOp E (run E m) all rest o tm h=r
 unfold sOp
 rw[hc]
 simp only[hf,isBuiltin,sCallee]
 rw[e1 m (by omega)]
 exact e2 m (by omega)
theorem Evl.fn {f:Nat} {first caps args:List CV} {s:FnS} {c:Code} {r0:R} (hk:kfind h E.globs f (first++args++caps) E.known=none) (hf:E.fn f=some s) (hc:s.body=some c) (hn:Nat.ble (len (first++args++caps)) s.ntmps=true)
  (h1':Evl E (.code c) (putArgs 0 (first++args++caps) .leaf) h r0) (hr:kBody E s.results r0=r):Evl E (.call (.fn f first caps) args) tm h r:=by
 obtain⟨N,e⟩:=h1'
 refine .step ⟨N,λm hm=> ?_⟩
 show sFn E (run E m) (first++args++caps) h f (kfind h E.globs f (first++args++caps) E.known)=r
 rw[hk]
 show sBody E (run E m) (first++args++caps) h (E.fn f)=r
 rw[hf]
 unfold sBody
 simp only[hc,hn]
 rw[e m hm,hr]
theorem Evl.known {f:Nat} {first caps args:List CV} (hk:kfind h E.globs f (first++args++caps) E.known=some (v,[])) (hr:rowsHold h E.rows=true):Evl E (.call (.fn f first caps) args) tm h (.val v h):=by
 refine .step ⟨0,λm _=> ?_⟩
 show sFn E (run E m) (first++args++caps) h f (kfind h E.globs f (first++args++caps) E.known)=_
 rw[hk]
 show kKnown (v,[]) h (rowsHold h E.rows)=_
 rw[hr];rfl
def W (E:Env) (t:Task) (tm:Tm) (h:Heap) (Q:R->Prop):Prop:=∃r,Evl E t tm h r/\Q r
variable {Q Q':R->Prop}
theorem W.mono (w:W E t tm h Q) (hq:∀r,Q r->Q' r):W E t tm h Q':=by
 obtain⟨r,e,q⟩:=w
 exact⟨r,e,hq r q⟩
def SeqQ (E:Env) (b:Code) (Q:R->Prop) (r:R):Prop:=match r with
 | .code e tm h=>match e with
   | .normal=>W E (.code b) tm h Q
   |_=>Q r
 |_=>Q r
theorem W.seq (w:W E (.code a) tm h (SeqQ E b Q)):W E (.code (.seq a b)) tm h Q:=by
 obtain⟨r,e,q⟩:=w
 cases r with
 |code ex tm' h'=>
  cases ex with
  |normal=>
   obtain⟨r2,e2,q2⟩:=q
   exact⟨r2,e.seq e2,q2⟩
  |exit i=>exact⟨_,e.seq_out λ_=>rfl,q⟩
  |goto i=>exact⟨_,e.seq_out λ_=>rfl,q⟩
  |ret=>exact⟨_,e.seq_out λ_=>rfl,q⟩
 |val v h'=>exact⟨_,e.seq_out λ_=>rfl,q⟩
 |pan v h'=>exact⟨_,e.seq_out λ_=>rfl,q⟩
 |stop=>exact⟨_,e.seq_out λ_=>rfl,q⟩
def BlockQ (i:Nat) (Q:R->Prop) (r:R):Prop:=Q (kBlock i r)
theorem W.block {i:Nat} (w:W E (.code b) tm h (BlockQ i Q)):W E (.code (.block i b)) tm h Q:=by
 obtain⟨r,e,q⟩:=w
 exact⟨_,e.block rfl,q⟩
theorem BlockQ.exit {i:Nat} (q:Q (.code .normal tm h)):BlockQ i Q (.code (.exit i) tm h):=by
 show Q (match Nat.beq i i with|true=> .code .normal tm h|false=> .code (.exit i) tm h)
 rw[Nat.beq_refl];exact q
theorem W.skip (q:Q (.code .normal tm h)):W E (.code .skip) tm h Q:=⟨_,.skip,q⟩
theorem W.ret (q:Q (.code .ret tm h)):W E (.code .ret) tm h Q:=⟨_,.ret,q⟩
theorem W.exit {i:Nat} (q:Q (.code (.exit i) tm h)):W E (.code (.exit i)) tm h Q:=⟨_,.exit,q⟩
theorem W.cond {c:Operand} {x:Bool} (hc:cvOf E.globs tm c= .bool x) (ht:x=true->W E (.code a) tm h Q) (hf:x=false->W E (.code b) tm h Q):W E (.code (.cond c a b)) tm h Q:=by
 cases x with
 |true=>
  obtain⟨r,e,q⟩:=ht rfl
  exact⟨r,.cond hc (λ_=>e) (λh=>by cases h),q⟩
 |false=>
  obtain⟨r,e,q⟩:=hf rfl
  exact⟨r,.cond hc (λh=>by cases h) (λ_=>e),q⟩
theorem W.region {l:Nat} {ops:Array Oper} (w:W E (.ops ops.toList ops.toList) tm h Q):W E (.code (.region l ops false)) tm h Q:=by
 obtain⟨r,e,q⟩:=w
 exact⟨r,e.region,q⟩
theorem W.draws {l:Nat} {ops:Array Oper} (w:W E (.draw (aheads ops.toList []) ops.toList ops.toList 0 []) tm h Q):W E (.code (.region l ops true)) tm h Q:=by
 obtain⟨r,e,q⟩:=w
 exact⟨r,e.draws,q⟩
theorem W.nil (q:Q (.code .normal tm h)):W E (.ops all []) tm h Q:=⟨_,.nil,q⟩
theorem W.op (hg:guardOn all tm o=some true) (ho:opAny E o tm h=some (v,h1)) (w:W E (.ops all rest) (putTmp tm o.dst v) h1 Q):W E (.ops all (o::rest)) tm h Q:=by
 obtain⟨r,e,q⟩:=w
 exact⟨r,.op hg ho e,q⟩
theorem W.off (hg:guardOn all tm o=some false) (w:W E (.ops all rest) (putTmp tm o.dst (.tup [])) h Q):W E (.ops all (o::rest)) tm h Q:=by
 obtain⟨r,e,q⟩:=w
 exact⟨r,.off hg e,q⟩
def CallQ (E:Env) (all rest:List Oper) (dst:Option Nat) (tm:Tm) (Q:R->Prop) (r:R):Prop:=match r with
 | .val v h=>W E (.ops all rest) (putTmp tm dst v) h Q
 |_=>False
theorem W.call {c:Call} {f:Operand} (hg:guardOn all tm o=some true) (hc:o.op= .call c) (hf:c.callee= .value f) (w:W E (.call (cvOf E.globs tm f) (c.args.toList.map (cvOf E.globs tm))) .leaf h (CallQ E all rest o.dst tm Q)):W E (.ops all (o::rest)) tm h Q:=by
 obtain⟨r,e,q⟩:=w
 cases r with
 |val v h'=>
  obtain⟨r2,e2,q2⟩:=q
  exact⟨r2,.call hg hc hf e e2,q2⟩
 |_=>exact q.elim
theorem CallQ.val {dst:Option Nat} (w:W E (.ops all rest) (putTmp tm dst v) h Q):CallQ E all rest dst tm Q (.val v h):=w
def BodyQ (E:Env) (rs:List ResultVar) (Q:R->Prop) (r:R):Prop:=Q (kBody E rs r)
theorem W.fn {f:Nat} {first caps args:List CV} {s:FnS} {c:Code} (hk:kfind h E.globs f (first++args++caps) E.known=none) (hf:E.fn f=some s) (hc:s.body=some c) (hn:Nat.ble (len (first++args++caps)) s.ntmps=true)
  (w:W E (.code c) (putArgs 0 (first++args++caps) .leaf) h (BodyQ E s.results Q)):W E (.call (.fn f first caps) args) tm h Q:=by
 obtain⟨r,e,q⟩:=w
 exact⟨_,.fn hk hf hc hn e rfl,q⟩
theorem W.known {f:Nat} {first caps args:List CV} (hk:kfind h E.globs f (first++args++caps) E.known=some (v,[])) (hr:rowsHold h E.rows=true) (q:Q (.val v h)):W E (.call (.fn f first caps) args) tm h Q:=⟨_,.known hk hr,q⟩
def LoopQ {σ:Type} (S:σ->Tm->Heap->Prop) (μ:σ->Nat) (s:σ) (Q:R->Prop) (r:R):Prop:=match r with
 | .code e tm h=>match e with
   | .normal=>∃s',μ s'<μ s/\S s' tm h
   |_=>Q r
 |_=>Q r
theorem W.loop {σ:Type} (S:σ->Tm->Heap->Prop) (μ:σ->Nat) (step:∀s tm h,S s tm h->W E (.code b) tm h (LoopQ S μ s Q)) {s:σ} (hs:S s tm h):W E (.code (.loop b)) tm h Q:=by
 suffices H:∀n s tm h,μ s<=n->S s tm h->W E (.code (.loop b)) tm h Q from H (μ s) s tm h (Nat.le_refl _) hs
 intro n
 induction n with
 |zero=>
  intro s tm h hn hs
  obtain⟨r,e,q⟩:=step s tm h hs
  cases r with
  |code ex tm' h'=>
   cases ex with
   |normal=>obtain⟨s',h1,_⟩:=q;omega
   |exit i=>exact⟨_,e.loop_out λ_=>rfl,q⟩
   |goto i=>exact⟨_,e.loop_out λ_=>rfl,q⟩
   |ret=>exact⟨_,e.loop_out λ_=>rfl,q⟩
  |val v h'=>exact⟨_,e.loop_out λ_=>rfl,q⟩
  |pan v h'=>exact⟨_,e.loop_out λ_=>rfl,q⟩
  |stop=>exact⟨_,e.loop_out λ_=>rfl,q⟩
 |succ n ih=>
  intro s tm h hn hs
  obtain⟨r,e,q⟩:=step s tm h hs
  cases r with
  |code ex tm' h'=>
   cases ex with
   |normal=>
    obtain⟨s',h1,h2⟩:=q
    obtain⟨r2,e2,q2⟩:=ih s' tm' h' (by omega) h2
    exact⟨r2,e.loop e2,q2⟩
   |exit i=>exact⟨_,e.loop_out λ_=>rfl,q⟩
   |goto i=>exact⟨_,e.loop_out λ_=>rfl,q⟩
   |ret=>exact⟨_,e.loop_out λ_=>rfl,q⟩
  |val v h'=>exact⟨_,e.loop_out λ_=>rfl,q⟩
  |pan v h'=>exact⟨_,e.loop_out λ_=>rfl,q⟩
  |stop=>exact⟨_,e.loop_out λ_=>rfl,q⟩
theorem SeqQ.exit {i:Nat} (q:Q (.code (.exit i) tm h)):SeqQ E b Q (.code (.exit i) tm h):=q
theorem SeqQ.ret (q:Q (.code .ret tm h)):SeqQ E b Q (.code .ret tm h):=q
theorem SeqQ.normal (w:W E (.code b) tm h Q):SeqQ E b Q (.code .normal tm h):=w
theorem BlockQ.normal {i:Nat} (q:Q (.code .normal tm h)):BlockQ i Q (.code .normal tm h):=q
theorem BlockQ.ret {i:Nat} (q:Q (.code .ret tm h)):BlockQ i Q (.code .ret tm h):=q
theorem BlockQ.other {i j:Nat} (hn:Nat.beq j i=false) (q:Q (.code (.exit j) tm h)):BlockQ i Q (.code (.exit j) tm h):=by
 show Q (match Nat.beq j i with|true=> .code .normal tm h|false=> .code (.exit j) tm h)
 rw[hn];exact q
theorem LoopQ.exit {σ:Type} {S:σ->Tm->Heap->Prop} {μ:σ->Nat} {s:σ} {i:Nat} (q:Q (.code (.exit i) tm h)):LoopQ S μ s Q (.code (.exit i) tm h):=q
theorem LoopQ.ret {σ:Type} {S:σ->Tm->Heap->Prop} {μ:σ->Nat} {s:σ} (q:Q (.code .ret tm h)):LoopQ S μ s Q (.code .ret tm h):=q
theorem W.ld {t:TypeId} {x:Operand} {i off:Nat} {cs:List CV} {ro:Bool} {s:TyS} {v:CV} (hgd:guardOn all tm o=some true) (hop:o.op= .load t x) (hx:cvOf E.globs tm x= .ptr (some (i,off))) (hg:h.get i=some (.cells cs ro)) (hs:E.ty t=some s) (hp:part cs off s.size s.agg=some v)
  (w:W E (.ops all rest) (putTmp tm o.dst v) h Q):W E (.ops all (o::rest)) tm h Q:=by
 refine W.op hgd (v:=v) (h1:=h) ?_ w
 unfold opAny
 rw[hop]
 show oLoad E t (cvOf E.globs tm x) h=_
 rw[hx]
 unfold oLoad load loadB
 simp only[hg,hs,hp,withH]
theorem W.ix {t:TypeId} {x y:Operand} {s:TyS} {e i off len c ex z j:Nat} {kk:IntKind} {n:Int} (hgd:guardOn all tm o=some true) (hop:o.op= .indexAddr t x y) (hx:cvOf E.globs tm x= .slice (some (i,off)) len c ex) (hy:cvOf E.globs tm y= .int kk n) (hs:E.ty t=some s) (hk:s.kind= .slice e) (hz:sizeOf? E e=some z) (hn:place n len=some j)
  (w:W E (.ops all rest) (putTmp tm o.dst (.ptr (some (i,off+j*z)))) h Q):W E (.ops all (o::rest)) tm h Q:=by
 refine W.op hgd (v:= .ptr (some (i,off+j*z))) (h1:=h) ?_ w
 unfold opAny
 rw[hop]
 show oIndexAddr E (E.ty t) (cvOf E.globs tm x) (cvOf E.globs tm y) h=_
 rw[hx,hy,hs]
 unfold oIndexAddr
 simp only[hk,hz,hn,addrAt]
theorem new_same (h:Heap) (b:Blk):(h.new b).get h.next=some b:=by rw[Heap.get_new];simp
theorem place_of {n:Int} {len j:Nat} (hn:n=(j:Int)) (hj:j<len):place n len=some j:=by
 subst hn
 show(match Nat.blt j len with|true=>some j|false=>none)=some j
 have e:Nat.blt j len=true:=by rw[Nat.blt_eq];exact hj
 rw[e]
def Fresh (h:Heap):Prop:=∀i,h.next<=i->h.get i=none
theorem Fresh.new {h:Heap} (f:Fresh h) (b:Blk):Fresh (h.new b):=λi hi=>by
 have hi:h.next+1<=i:=hi
 rw[Heap.get_new,if_neg (by omega)]
 exact f i (by omega)
structure Ext (h h':Heap):Prop where
 next:h.next<=h'.next
 old:∀i,i<h.next->h'.get i=h.get i
 fr:Fresh h->Fresh h'
theorem Ext.refl (h:Heap):Ext h h:=⟨Nat.le_refl _,λ_ _=>rfl,id⟩
theorem Ext.trans {a b c:Heap} (x:Ext a b) (y:Ext b c):Ext a c:=⟨Nat.le_trans x.next y.next,λi hi=>(y.old i (Nat.lt_of_lt_of_le hi x.next)).trans (x.old i hi),λf=>y.fr (x.fr f)⟩
theorem Ext.new (h:Heap) (b:Blk):Ext h (h.new b):=⟨Nat.le_succ _,λi hi=>by rw[Heap.get_new,if_neg (by omega)],λf=>f.new b⟩
theorem Ext.store {h H K:Heap} {i:Nat} (x:Ext h H) (nx:K.next=H.next) (kp:∀k,k≠i->K.get k=H.get k) (hi:h.next<=i) (hi2:i<H.next):Ext h K:=
 ⟨by rw[nx];exact x.next,λk hk=>(kp k (by omega)).trans (x.old k hk),λf k hk=>by
  rw[nx]at hk
  exact(kp k (by omega)).trans (x.fr f k hk)⟩
theorem W.st {t:TypeId} {x y:Operand} {id off:Nat} {cs cs' vs:List CV} {s:TyS} (hgd:guardOn all tm o=some true) (hop:o.op= .store t x y) (hx:cvOf E.globs tm x= .ptr (some (id,off))) (hy:(cvOf E.globs tm y).cells=some vs) (hs:E.ty t=some s) (hl:Nat.beq (len vs) s.size=true) (hg:h.get id=some (.cells cs false)) (hp:setAt cs vs off=some cs')
  (w:W E (.ops all rest) (putTmp tm o.dst .undef) (h.put id (.cells cs' false)) Q):W E (.ops all (o::rest)) tm h Q:=by
 refine W.op hgd (v:= .undef) (h1:=h.put id (.cells cs' false)) ?_ w
 unfold opAny
 rw[hop]
 show oStore E t (cvOf E.globs tm x) (cvOf E.globs tm y) h=_
 rw[hx]
 unfold oStore store storeV
 simp only[hs,hy,hl]
 unfold putCells
 simp only[hg,hp,Option.map_some,ofH]
theorem W.opn {a0 a1 a2 a3 a4 a5 a6 a7 a8 a9 a10 a11 a12 a13 a14 a15:NA} {a16:Tree CV} (hg:guardOn all tm o=some true) (ho:opAny E o tm h=some (v,h1)) (ht:putTmp tm o.dst v=(Tm.mk a0 a1 a2 a3 a4 a5 a6 a7 a8 a9 a10 a11 a12 a13 a14 a15 a16)) (w:W E (.ops all rest) (Tm.mk a0 a1 a2 a3 a4 a5 a6 a7 a8 a9 a10 a11 a12 a13 a14 a15 a16) h1 Q):W E (.ops all (o::rest)) tm h Q:=W.op hg ho (by rw[ht];exact w)
theorem W.offn {a0 a1 a2 a3 a4 a5 a6 a7 a8 a9 a10 a11 a12 a13 a14 a15:NA} {a16:Tree CV} (hg:guardOn all tm o=some false) (ht:putTmp tm o.dst (.tup [])=(Tm.mk a0 a1 a2 a3 a4 a5 a6 a7 a8 a9 a10 a11 a12 a13 a14 a15 a16)) (w:W E (.ops all rest) (Tm.mk a0 a1 a2 a3 a4 a5 a6 a7 a8 a9 a10 a11 a12 a13 a14 a15 a16) h Q):W E (.ops all (o::rest)) tm h Q:=W.off hg (by rw[ht];exact w)
def CutQ (P:Tm->Heap->Prop) (r:R):Prop:=match r with
 | .code e tm h=>match e with
   | .normal=>P tm h
   |_=>False
 |_=>False
theorem CutQ.normal {P:Tm->Heap->Prop} (p:P tm h):CutQ P (.code .normal tm h):=p
theorem rowsHold_of {h h':Heap}:∀{rows:List (Nat×List CV)},(∀r∈rows,h'.get r.1=h.get r.1)->rowsHold h rows=true->rowsHold h' rows=true
 |[],_,_=>rfl
 |r::rs,e,hr=>by
  unfold rowsHold at hr ⊢
  rw[e r (by simp)]
  cases hb:rowIs r.2 (h.get r.1)with
  |true=>
   rw[hb]at hr
   exact rowsHold_of (λx hx=>e x (List.mem_cons_of_mem _ hx)) hr
  |false=>rw[hb]at hr;cases hr
theorem W.stn {t:TypeId} {x y:Operand} {id off:Nat} {cs cs' vs:List CV} {s:TyS} (hgd:guardOn all tm o=some true) (hop:o.op= .store t x y) (hx:cvOf E.globs tm x= .ptr (some (id,off))) (hy:(cvOf E.globs tm y).cells=some vs) (hs:E.ty t=some s) (hl:Nat.beq (len vs) s.size=true) (hg:h.get id=some (.cells cs false)) (hp:setAt cs vs off=some cs')
  (w:∀h':Heap,h'.next=h.next->h'.get id=some (.cells cs' false)->(∀k,k≠id->h'.get k=h.get k)->W E (.ops all rest) (putTmp tm o.dst .undef) h' Q):W E (.ops all (o::rest)) tm h Q:=
 W.st hgd hop hx hy hs hl hg hp (w _ rfl (by rw[Heap.get_put];simp) λk hk=>by rw[Heap.get_put,if_neg (Ne.symm hk)])
end
end Go.CM
