/- The walk: code that draws no order. No condition. -/
import Derived.Test.YtnjkaahbhebaeaaGreatDoorCmN
import Derived.LoopNIn
import Derived.OrdersIn
import Derived.RangeFuncRecord
import Derived.RangeFuncIn
set_option linter.unusedVariables false
set_option linter.unusedSimpArgs false
noncomputable section
namespace Go.CM
structure KnownOk (P:Program) (g:Nat) (rows:List (Nat×List CV)) (e:KE):Prop where
 fn:∃fn,P.funcs[e.f]? =some fn/\¬fn.name= "runtime.NumGoroutine" /\∃c,fn.body=some c
 calls:∀(w:World) (ρ:Rho) (xs:List Value),HR ρ (heapOf g rows e.blks) w->(∀i,i<g->ρ i=some (i,0))->VRs ρ e.args xs->
  Calls P e.f xs.toArray w λe' w'=>∃x ρ',e'= .returned x/\J ρ (heapOf g rows e.blks) w ρ' (kAdd (heapOf g rows e.blks) e.news) w'/\VR ρ' e.res x
structure EnvW (P:Program) (E:Env):Prop where
 ok:EnvOk P E
 dst:∀f s c,E.fn f=some s->s.body=some c->dstsOk s.ntmps c=true
 name:∀f s fn,E.fn f=some s->P.funcs[f]? =some fn->(fn.name== "runtime.NumGoroutine")=false
 mixed:P.follows .mixedOrders=true
 known:∀e∈E.known,KnownOk P E.globs E.rows e
 rows:∀r∈E.rows,r.1<E.globs/\r.2.all CV.plain=true
def FW (ro:Option Nat):Fence:={Fence.wide with round:=ro}
structure Mk (B:Nat) (ρ:Rho) (h:Heap) (w:World) (a:Act):Prop where
 base:B<=w.heap.size
 all:∀d∈a.defers,∃D,d={target:= .collected D,args:= #[]}/\B<=D/\w.heap[D]? =some (.deferred (some []))/\¬Live ρ h D
 diff:a.defers.Pairwise λd d'=>d.target≠d'.target
theorem Mk.step {B:Nat} {ρ ρ1:Rho} {h h1:Heap} {w w1:World} {a a1:Act} (k:Mk B ρ h w a) (j:J ρ h w ρ1 h1 w1) (e:a1.defers=a.defers):Mk B ρ1 h1 w1 a1:=by
 refine⟨Nat.le_trans k.base j.keep.size,λd hd=> ?_,by rw[e];exact k.diff⟩;rw[e]at hd;obtain⟨D,k1,k2,k3,k4⟩:=k.all d hd;have hlt:D<w.heap.size:=(Array.getElem?_eq_some_iff.1 k3).1;refine⟨D,k1,k2,?_,λhl=> ?_⟩
 ·rw[j.keep.same D hlt (λhl=>k4 ?_)]
  ·exact k3
  ·obtain⟨i,e,c,q1,_,q3⟩:=hl
   exact⟨i,e,by rw[q1];simp,q3⟩
 ·rcases j.own D hl with h|h
  ·omega
  ·exact k4 h
structure TR (n:Nat×Nat) (ρ:Rho) (h:Heap) (w:World) (tmps:Tm) (a:Act):Prop where
 size:a.tmps.size=n.1
 mks:Mk n.2 ρ h w a
 tmp:∀t,VR ρ ((tmps.get t).getD .undef) (a.tmps.getD t undef)
structure GR (E:Env) (ρ:Rho) (h:Heap):Prop where
 glob:∀g,g<E.globs->ρ g=some (g,0)
 next:E.globs<=h.next
def EndR:Ex->Exit->Prop
 | .normal,.normal=>True
 | .exit i,.exit j=>i=j
 | .goto i,.goto j=>i=j
 | .ret,.ret=>True
 |_,_=>False
def PostR (n:Nat×Nat) (ρ:Rho) (h:Heap) (w:World) (r:R) (e:Exit) (a':Act) (w':World):Prop:=
 match r with
 | .code ex tmps' h'=>EndR ex e/\∃ρ',J ρ h w ρ' h' w'/\TR n ρ' h' w' tmps' a'
 | .pan v h'=>∃x ρ',e= .panic [{v:=x,recovered:=false}]/\J ρ h w ρ' h' w'/\VR ρ' v x/\Mk n.2 ρ' h' w' a'
 |_=>False
def PostV (ρ:Rho) (h:Heap) (w:World) (r:R) (e:Ending) (w':World):Prop:=
 match r with
 | .val v h'=>∃x ρ',e= .returned x/\J ρ h w ρ' h' w'/\VR ρ' v x
 | .pan v h'=>∃x ρ',e= .panicked [{v:=x,recovered:=false}]/\J ρ h w ρ' h' w'/\VR ρ' v x
 |_=>False
section
variable {P:Program} {E:Env} {n:Nat×Nat} {ρ ρ1:Rho} {h h1:Heap} {w w1:World} {tmps:Tm} {a:Act}
theorem GR.step (g:GR E ρ h) (j:J ρ h w ρ1 h1 w1):GR E ρ1 h1:=
 ⟨λi hi=>by rw[(j.ext i (Nat.lt_of_lt_of_le hi g.next)).1];exact g.glob i hi,Nat.le_trans g.next j.next⟩
theorem TR.step (t:TR n ρ h w tmps a) (j:J ρ h w ρ1 h1 w1) (s:Sub ρ ρ1):TR n ρ1 h1 w1 tmps a:=⟨t.size,t.mks.step j rfl,λi=>(t.tmp i).mono s⟩
theorem TR.operand (t:TR n ρ h w tmps a) (g:GR E ρ h) (x:Operand):VR ρ (cvOf E.globs tmps x) (a.eval x):=by
 unfold cvOf;split
 ·exact t.tmp _
 ·rename_i v
  cases hc:constCV v with
  |none=>exact .undef _
  |some c=>exact constCV_sound hc
 ·rename_i i
  split
  ·rename_i hi
   have hi:i<E.globs:=by simpa[Nat.blt_eq]using hi
   exact VR.ptr (ρ:=ρ) i 0 i 0 (g.glob i hi)
  ·exact .undef _
 ·exact VRs.fn (VRs.nil _) (VRs.nil _)
theorem TR.put (t:TR n ρ h w tmps a) (j:J ρ h w ρ1 h1 w1) (s:Sub ρ ρ1) {dst:Option Nat} {v:CV} {x:Value} (hd:∀d,dst=some d->d<n.1) (hv:VR ρ1 v x):TR n ρ1 h1 w1 (putTmp tmps dst v) (a.put dst x):=by
 cases dst with
 |none=>exact t.step j s
 |some d=>
  have hlt:d<a.tmps.size:=by rw[t.size];exact hd d rfl
  refine⟨by simp[Act.put,t.size],t.mks.step j rfl,λi=> ?_⟩;simp only[putTmp,Tm.get_set];by_cases e:d=i
  ·subst e
   have:(a.put (some d) x).tmps.getD d undef=x:=by simp[Act.put,hlt]
   rw[this,if_pos rfl];exact hv
  ·rw[if_neg e]
   have:(a.put (some d) x).tmps.getD i undef=a.tmps.getD i undef:=by simp[Act.put,e]
   rw[this];exact(t.tmp i).mono s
theorem dstOk_lt {n:Nat} {o:Oper} (hd:dstOk n o=true):∀d,o.dst=some d->d<n:=by
 intro d e;unfold dstOk at hd;rw[e]at hd;simpa[Nat.blt_eq]using hd
theorem allOk_mem {p:Oper->Bool}:∀{l:List Oper},allOk p l=true->∀o∈l,p o=true
 |[],_,o,ho=>by cases ho
 |x::l,hl,o,ho=>by
  have hl:(match p x with|true=>allOk p l|false=>false)=true:=hl
  cases hp:p x with
  |false=>rw[hp]at hl;cases hl
  |true=>
   rw[hp]at hl;rcases List.mem_cons.1 ho with rfl|ho
   ·exact hp
   ·exact allOk_mem hl o ho
theorem PostR.trans {r:R} {e:Exit} {a':Act} {w':World} (j:J ρ h w ρ1 h1 w1) (p:PostR n ρ1 h1 w1 r e a' w'):PostR n ρ h w r e a' w':=by
 cases r with
 |code ex t2 h2=>
  obtain⟨p1,ρ',p2,p3⟩:=p;exact⟨p1,ρ',j.trans p2,p3⟩
 |pan v h2=>
  obtain⟨x,ρ',p1,p2,p3,p4⟩:=p;exact⟨x,ρ',p1,j.trans p2,p3,p4⟩
 |val v h2=>exact p.elim
 |stop=>exact p.elim
theorem wanted_sound {arr:Array Oper} (t:TR n ρ h w tmps a) {o:Oper} {b:Bool} (e:guardOn arr.toList tmps o=some b):Region.wanted o (yielded arr a.tmps)=b:=by
 unfold guardOn at e;unfold Region.wanted;split at e
 ·rename_i hg
  cases e;rw[hg]
 ·rename_i g hg
  rw[hg];obtain⟨j,want⟩:=g;simp only at e ⊢;unfold yieldOf at e;split at e
  ·rename_i oj hoj
   rw[nth_eq]at hoj;split at e
   ·rename_i d hd
    split at e
    ·rename_i y' hget
     cases e;have ht:=t.tmp d;rw[hget]at ht;have hv:=ht.inv_bool;have hoj:arr[j]? =some oj:=by rw[<-Array.getElem?_toList];exact hoj
     have hsome:a.tmps[d]? =some (.bool y'):=by
      rcases Nat.lt_or_ge d a.tmps.size with hlt|hge
      ·simp[hlt]at hv
       simp[hlt,hv]
      ·simp[Nat.not_lt.2 hge]at hv
       cases hv
     simp[yielded,hoj,hd,hsome]
    ·rename_i l hget
     split at e
     ·cases e
      have ht:=t.tmp d;rw[hget]at ht;have hoj:arr[j]? =some oj:=by rw[<-Array.getElem?_toList];exact hoj
      obtain⟨xs,hx,hxs⟩:=ht.inv_tup
      have hnil:xs= #[]:=by
       have:=hxs.of_nil;exact Array.toList_eq_nil_iff.1 this
      subst hnil
      have hsome:a.tmps[d]? =some (.tuple #[])\/a.tmps[d]? =none:=by
       rcases Nat.lt_or_ge d a.tmps.size with hlt|hge
       ·simp[hlt]at hx
        simp[hlt,hx]
       ·exact .inr (by simp[hge])
      rcases hsome with hsome|hsome<;>simp[yielded,hoj,hd,hsome]
     ·cases e
    ·cases e
   ·cases e
  ·cases e
structure Snd (P:Program) (E:Env) (m:Nat):Prop where
 code:∀(n:Nat×Nat) (c:Code) (tmps:Tm) (h:Heap),run E m (.code c) tmps h≠ .stop->dstsOk n.1 c=true->∀(ro:Option Nat),(ro.isSome=true->noRange c=true)->∀(ρ:Rho) (a:Act) (w:World),HR ρ h w->GR E ρ h->TR n ρ h w tmps a->
  c.wpIn (FW ro) 0 P (PostR n ρ h w (run E m (.code c) tmps h)) a w
 loop:∀(n:Nat×Nat) (c:Code) (tmps:Tm) (h:Heap),run E m (.code (.loop c)) tmps h≠ .stop->dstsOk n.1 c=true->∀(ro:Option Nat),(ro.isSome=true->noRange c=true)->∀(ρ:Rho) (a:Act) (w:World),HR ρ h w->GR E ρ h->TR n ρ h w tmps a->
  Code.roundsIn (FW ro) 0 P c (PostR n ρ h w (run E m (.code (.loop c)) tmps h)) m a w
 ops:∀(n:Nat×Nat) (arr:Array Oper) (rest:List Oper) (k:Nat) (tmps:Tm) (h:Heap),run E m (.ops arr.toList rest) tmps h≠ .stop->arr.toList.drop k=rest->(∀o∈rest,dstOk n.1 o=true)->
  ∀(ro:Option Nat) (ρ:Rho) (a:Act) (w:World),HR ρ h w->GR E ρ h->TR n ρ h w tmps a->wpOpsIn (FW ro) 0 P arr (PostR n ρ h w (run E m (.ops arr.toList rest) tmps h)) (List.range' k rest.length) a w
 draw:∀(n:Nat×Nat) (arr:Array Oper) (tmps:Tm) (h:Heap),run E m (.draw (aheads arr.toList []) arr.toList arr.toList 0 []) tmps h≠ .stop->(∀o∈arr.toList,dstOk n.1 o=true)->drawOk arr.toList=true->
  ∀(ro:Option Nat) (ρ:Rho) (a:Act) (w:World),HR ρ h w->GR E ρ h->TR n ρ h w tmps a->∀t,wpOpsIn (FW ro) 0 P arr (PostR n ρ h w (run E m (.draw (aheads arr.toList []) arr.toList arr.toList 0 []) tmps h)) (Region.schedule (P.follows .mixedOrders) arr t) a w
 call:∀(f:FuncId) (first caps args:List CV) (h:Heap),run E m (.call (.fn f first caps) args) .leaf h≠ .stop->∀(ρ:Rho) (w:World) (xs:List Value),HR ρ h w->GR E ρ h->VRs ρ (first++args++caps) xs->
  Calls P f xs.toArray w (PostV ρ h w (run E m (.call (.fn f first caps) args) .leaf h))
 round:∀(i:Nat) (args:List CV) (h:Heap),run E m (.call (.yield i) args) .leaf h≠ .stop->∀(ro:Option Nat) (ρ:Rho) (w:World) (xs:List Value),HR ρ h w->GR E ρ h->VRs ρ args xs->
  ∃l r,ρ i=some (l,0)/\w.heap[l]? =some (.loop r)/\xs.length=r.params.size/\
   RoundIn (FW ro) 0 P l r.fn ((r.params.zip xs.toArray).foldl (λtmps (t,a)=>tmps.setIfInBounds t a) r.tmps) r.assign r.body w (PostV ρ h w (run E m (.call (.yield i) args) .leaf h))
theorem rounds_mono {ro:Option Nat} {c:Code} {Q Q':Exit->Act->World->Prop} (hq:∀e a w,Q e a w->Q' e a w):∀(m:Nat) (a:Act) (w:World),Code.roundsIn (FW ro) 0 P c Q m a w->Code.roundsIn (FW ro) 0 P c Q' m a w
 |0,_,_,hr=>hr.elim
 |m+1,a,w,hr=>by
  rw[roundsIn_succ]at hr ⊢;refine wpIn_mono hr λe a w hh=> ?_;cases e with
  |normal=>exact rounds_mono hq m a w hh
  |_=>exact hq _ _ _ hh
theorem lets_mono {Q Q':Exit->Act->World->Prop} (hq:∀e a w,Q e a w->Q' e a w) (h:LetsOut Q):LetsOut Q':=by
 obtain⟨a0,w0,h2⟩:=h;exact⟨a0,w0,hq _ _ _ h2⟩
theorem op_mono {ro:Option Nat} {o:Oper} {K K':Act->World->Prop} {Q Q':Exit->Act->World->Prop} (hk:∀a w,K a w->K' a w) (hq:∀e a w,Q e a w->Q' e a w) (hh:o.wpIn (FW ro) 0 P a w K Q):o.wpIn (FW ro) 0 P a w K' Q':=by
 unfold Oper.wpIn at*;refine⟨hh.1,?_⟩;have hh:=hh.2;generalize (o.semAt (FW ro).round a.eval).run P w=r at*;cases r with
 |ok x w'=>
  cases x<;>simp only[Oper.uponIn]at hh ⊢ <;>
   first
    |exact hk _ _ hh
    |exact⟨hh.1,CallsIn.mono hh.2 (λe w'' he=>by cases e<;>first|exact hk _ _ he|exact hq _ _ _ he|exact lets_mono hq he)⟩
    |exact⟨hh.1,RowsIn.mono hh.2 (λ_ _ he=>hk _ _ he)⟩
    |exact⟨hh.1,RoundIn.mono hh.2 (λe w'' he=>by cases e<;>first|exact hk _ _ he|exact hq _ _ _ he|exact lets_mono hq he)⟩
 |halt x w'=>cases x<;>simp only[Oper.uponIn]at hh ⊢ <;>first|exact hq _ _ _ hh|exact hh
theorem ops_mono {ro:Option Nat} {arr:Array Oper} {Q Q':Exit->Act->World->Prop} (hq:∀e a w,Q e a w->Q' e a w):∀(l:List Nat) (a:Act) (w:World),wpOpsIn (FW ro) 0 P arr Q l a w->wpOpsIn (FW ro) 0 P arr Q' l a w
 |[],_,_,hh=>hq _ _ _ hh
 |i::r,a,w,hh=>by
  simp only[wpOpsIn]at hh ⊢;cases ho:arr[i]? with
  |none=>rw[ho]at hh;exact ops_mono hq r a w hh
  |some o=>
   rw[ho]at hh;simp only at hh ⊢;split at hh
   ·rename_i hw
    rw[if_pos hw];exact op_mono (λa w=>ops_mono hq r a w) hq hh
   ·rename_i hw
    rw[if_neg hw];exact⟨hh.1,ops_mono hq r _ _ hh.2⟩
theorem Gives.semAt {o:Oper} {x:Value} {w':World} (g:Gives P o a w x w') (ro:Option Nat):o.semAt ro a.eval=execOp a.eval o:=by
 refine Oper.semAt_eq ro a.eval o λc ho=> ?_;unfold Gives execOp at g;rw[ho]at g;simp only[Sem.run_bind]at g;cases hr:(resolve a.eval c o.type).run P w with
 |ok d w1=>rw[hr]at g;simp at g
 |halt d w1=>rw[hr]at g;simp[Result.andThen]at g
theorem wp_of_gives {ro:Option Nat} {o:Oper} {x:Value} {w':World} {next:Act->World->Prop} {Q:Exit->Act->World->Prop} (g:Gives P o a w x w') (hn:next (a.put o.dst x) w'):o.wpIn (FW ro) 0 P a w next Q:=by
 refine⟨λ_ _=>trivial,?_⟩;rw[g.semAt];rcases g with g|⟨g,rfl⟩
 ·rw[g,Oper.uponIn_value];exact hn
 ·rw[g,Oper.uponIn_skip];exact hn
theorem isBuiltin_some {c:Callee} {b:Builtin} (e:isBuiltin c=some b):c= .builtin b:=by
 unfold isBuiltin at e;split at e
 ·cases e;rfl
 ·cases e
theorem run_callOp {o:Oper} {c:Call} {f:Operand} (ho:o.op= .call c) (hc:c.callee= .value f) {id:FuncId} {a1 a2:Array Value} (hf:a.eval f= .func (.func id) a1 a2) {fn:Func} {cd:Code} (h1:P.funcs[id]? =some fn) (hn:¬fn.name= "runtime.NumGoroutine") (hb:fn.body=some cd):
  (execOp a.eval o).run P w= .ok (.enter id (a1++c.args.map a.eval++a2)) w:=by
 unfold execOp;simp[ho,hc,resolve,hf,Deferred.ofValue,invoke,callFunc,h1,hn,hb]
theorem findMeth_find {name:String} {p:FuncId×Bool}:∀{l:List Method},findMeth name (methsOf l)=some p->∃m,l.find? (·.name==name)=some m/\m.func=some p/\m.path.toList=[]
 |[],e=>by cases e
 |m::l,e=>by
  have e:(match m.name==name with|true=>(match m.func with|some p=>(match m.path.toList with|[]=>some p|_=>none)|none=>none)|false=>findMeth name (methsOf l))=some p:=e
  rw[List.find?_cons];cases hn:m.name==name with
  |true=>
   rw[hn]at e;refine⟨m,rfl,?_⟩;simp only at e;split at e
   ·rename_i q hq
    split at e
    ·rename_i hp
     rw[hq,<-e];exact⟨rfl,hp⟩
    ·cases e
   ·cases e
  |false=>
   rw[hn]at e;exact findMeth_find e
theorem run_method {ok:EnvOk P E} {name:String} {t:TypeId} {v:CV} {y:Value} {r:FuncId×CV} (e:methOf E name (.iface t v)=some r) (hv:VR ρ v y):r.2=v/\(method (P.types.size+Made.depth) t y name).run P w= .ok (r.1,y) w:=by
 unfold methOf at e;simp only at e;split at e
 ·rename_i s hs
  obtain⟨i,d,z,k⟩:=ok.row hs;split at e
  ·rename_i p hm
   rw[k.meths]at hm;obtain⟨m,h1,h2,h3⟩:=findMeth_find hm;have h1':i.methods.find? (·.name==name)=some m:=by rw[<-Array.find?_toList];exact h1
   obtain⟨n,hn⟩:∃n,P.types.size+Made.depth=n+1:=⟨P.types.size+Made.depth-1,by unfold Made.depth;omega⟩;rw[hn];have hk:=k.kind;split at e
   ·rename_i el hkp
    split at e
    ·rename_i hp
     cases e;have hd:=kind_pointer (k.kind.symm.trans hkp);subst hd;refine⟨rfl,?_⟩;simp[method,typeInfo,k.info,h1',h2,h3,follow,receiverAt,run_underlying k.und,hp,Place.get]
    ·cases e
   ·rename_i hnp
    split at e
    ·cases e
    ·rename_i hp
     cases e;refine⟨rfl,?_⟩;have:∀el,d≠ .pointer el:=λel hd=>by subst hd;exact hnp el hk
     cases d<;>first|(exact absurd rfl (this _))|simp[method,typeInfo,k.info,h1',h2,h3,follow,receiverAt,run_underlying k.und,hp,Place.get]
  ·cases e
 ·cases e
theorem run_invokeOp {o:Oper} {c:Call} {x:Operand} {name:String} (ho:o.op= .call c) (hc:c.callee= .invoke x name) {t:TypeId} {y:Value} {id:FuncId} (hx:a.eval x= .iface t y) (hm:(method (P.types.size+Made.depth) t y name).run P w= .ok (id,y) w)
  {fn:Func} {cd:Code} (h1:P.funcs[id]? =some fn) (hn:¬fn.name= "runtime.NumGoroutine") (hb:fn.body=some cd):
  (execOp a.eval o).run P w= .ok (.enter id (#[y]++c.args.map a.eval)) w:=by
 have e1:(#[a.eval x]++c.args.map a.eval)[0]? =some (.iface t y):=by
  rw[hx,<-Array.getElem?_toList,Array.toList_append];rfl
 have e2:(Array.map a.eval c.args).extract 0 c.args.size=Array.map a.eval c.args:=by
  apply Array.ext';simp only[Array.toList_extract,List.extract_eq_take_drop,List.drop_zero,Nat.sub_zero];rw[List.take_of_length_le (by simp)]
 unfold execOp;simp[ho,hc,resolve,invoke,e1,e2,callMethod,hm,callFunc,h1,hn,hb]
end
end Go.CM

noncomputable section
namespace Go.CM
section
variable {P:Program} {E:Env} {m:Nat} {n:Nat×Nat} {ρ ρ1:Rho} {h h1:Heap} {w w1:World} {tmps:Tm} {a:Act}
theorem J.of_world {w0:World} {ρ':Rho} {h':Heap} {w':World} (j:J ρ h w0 ρ' h' w') (e1:w0.heap=w.heap) (e2:w0.os=w.os) (e3:w0.output=w.output):J ρ h w ρ' h' w':=
 ⟨j.ext,j.next,j.hr,⟨j.keep.os.trans e2,j.keep.out.trans e3,by rw[<-e1];exact j.keep.size,λb hb hl=>by rw[j.keep.same b (by rw[e1];exact hb) hl,e1]⟩,λb hb=>by rw[<-e1];exact j.own b hb,λb hb=>by rw[<-e1];exact j.ownW b hb⟩
theorem PostR.of_world {w0:World} {r:R} {e:Exit} {a':Act} {w':World} (p:PostR n ρ h w0 r e a' w') (e1:w0.heap=w.heap) (e2:w0.os=w.os) (e3:w0.output=w.output):PostR n ρ h w r e a' w':=by
 cases r with
 |code ex t2 h2=>
  obtain⟨p1,ρ',p2,p3⟩:=p;exact⟨p1,ρ',p2.of_world e1 e2 e3,p3⟩
 |pan v h2=>
  obtain⟨x,ρ',p1,p2,p3,p4⟩:=p;exact⟨x,ρ',p1,p2.of_world e1 e2 e3,p3,p4⟩
 |val v h2=>exact p.elim
 |stop=>exact p.elim
theorem post_here (hr:HR ρ h w) (t:TR n ρ h w tmps a) {ex:Ex} {e:Exit} (he:EndR ex e):PostR n ρ h w (.code ex tmps h) e a w:=⟨he,ρ,J.refl hr,t⟩
theorem seq_step (S:Snd P E m) {b:Code} {r:R} {Q:Act->World->Prop} (hb:dstsOk n.1 b=true) (hstop:kSeq (run E m) b r≠ .stop) {e:Exit} {a':Act} {w':World} (g:GR E ρ h)
  (hQ:∀tmps1 h1 ρ1,r= .code .normal tmps1 h1->J ρ h w ρ1 h1 w'->TR n ρ1 h1 w' tmps1 a'->Q a' w') (p:PostR n ρ h w r e a' w'):
  Exit.then Q (PostR n ρ h w (kSeq (run E m) b r)) e a' w':=by
 cases r with
 |code ex t2 h2=>
  obtain⟨p1,ρ',p2,p3⟩:=p;cases ex<;>cases e<;>first|exact p1.elim|skip
  ·exact hQ t2 h2 ρ' rfl p2 p3
  all_goals exact⟨p1,ρ',p2,p3⟩
 |pan v h2=>
  obtain⟨x,ρ',rfl,p2,p3,p4⟩:=p;exact⟨x,ρ',rfl,p2,p3,p4⟩
 |val v h2=>exact p.elim
 |stop=>exact p.elim
theorem loop_step (S:Snd P E m) {c:Code} (hs:run E (m+1) (.code (.loop c)) tmps h≠ .stop) (hc:dstsOk n.1 c=true) (hr:HR ρ h w) (g:GR E ρ h) (t:TR n ρ h w tmps a) (ro:Option Nat) (hro:ro.isSome=true->noRange c=true):
  Code.roundsIn (FW ro) 0 P c (PostR n ρ h w (run E (m+1) (.code (.loop c)) tmps h)) (m+1) a w:=by
 rw[roundsIn_succ];have e:run E (m+1) (.code (.loop c)) tmps h=kSeq (run E m) (.loop c) (run E m (.code c) tmps h):=rfl;rw[e]at hs ⊢;have h1:run E m (.code c) tmps h≠ .stop:=by intro e;rw[e]at hs;exact hs rfl
 refine wpIn_mono (S.code n c tmps h h1 hc ro hro ρ a w hr g t) λe a' w' p=> ?_;refine seq_step (b:= .loop c) S hc hs g (λtmps1 h2 ρ1 hrr j t1=> ?_) p;rw[hrr]at hs ⊢;have hs:run E m (.code (.loop c)) tmps1 h2≠ .stop:=hs;exact rounds_mono (λe a w p=>p.trans j) m a' w' (S.loop n c tmps1 h2 hs hc ro hro ρ1 a' w' j.hr (g.step j) t1)
theorem and_range {ro:Option Nat} {x y:Code} (h:ro.isSome=true->(match noRange x with|true=>noRange y|false=>false)=true):(ro.isSome=true->noRange x=true)/\(ro.isSome=true->noRange y=true):=by
 refine⟨λe=> ?_,λe=> ?_⟩<;>have h:=h e<;>cases hx:noRange x<;>rw[hx]at h<;>first|cases h|rfl|exact h
theorem stOf_busy {st:Nat} (h:Nat.beq st 1=false):stOf st≠ .busy:=by
 match st,h with
 |0,_=>simp[stOf]
 |2,_=>simp[stOf]
 |n+3,_=>simp[stOf]
theorem alloc_old {w:World} {o:Obj} {x:Nat} (hx:x<w.heap.size):(w.alloc o).heap[x]? =w.heap[x]? :=by
 show(w.heap.push o)[x]? =_;simp[Array.getElem?_push,Nat.ne_of_lt hx]
theorem all1_mem {l:List Nat} {p:Nat->Bool}:all1 l p=true->∀i∈l,p i=true:=by
 induction l with
 |nil=>intro _ i hi;cases hi
 |cons x l ih=>
  intro hl i hi;have hl:(match p x with|true=>all1 l p|false=>false)=true:=hl
  cases hp:p x with
  |false=>rw[hp]at hl;cases hl
  |true=>
   rw[hp]at hl;rcases List.mem_cons.1 hi with rfl|hi
   ·exact hp
   ·exact ih hl i hi
theorem call_fn (W:EnvW P E) {id:FuncId} {first caps args:List CV} (hs:run E m (.call (.fn id first caps) args) tmps h≠ .stop):∃fn,P.funcs[id]? =some fn/\¬fn.name= "runtime.NumGoroutine" /\∃c,fn.body=some c:=by
 cases m with
 |zero=>exact absurd rfl hs
 |succ m=>
  have e:run E (m+1) (.call (.fn id first caps) args) tmps h=sFn E (run E m) (first++args++caps) h id (kfind h E.globs id (first++args++caps) E.known):=rfl;rw[e]at hs;cases hk:kfind h E.globs id (first++args++caps) E.known with
  |some v=>
   obtain⟨e0,h1,h2,_⟩:=kfind_mem hk;have:=(W.known e0 h1).fn;rwa[h2]at this
  |none=>
   rw[hk]at hs;have hs:sBody E (run E m) (first++args++caps) h (E.fn id)≠ .stop:=hs;cases hfs:E.fn id with
   |none=>rw[hfs]at hs;exact absurd rfl hs
   |some s=>
    rw[hfs]at hs;cases hcd:s.body with
    |none=>simp only[sBody,hcd]at hs;exact absurd rfl hs
    |some cd=>
     obtain⟨fn,f1,f2,f3,f4⟩:=W.ok.fn id s hfs;have hn:=W.name id s fn hfs f1;exact⟨fn,f1,by simpa using hn,cd,f4.trans hcd⟩
theorem range_step (W:EnvW P E) (S:Snd P E m) {f:Operand} {ps:Array Tmp} {asg body:Code} (hs:run E (m+1) (.code (.rangeFunc f ps asg body)) tmps h≠ .stop) (hc:dstsOk n.1 (.rangeFunc f ps asg body)=true) (hr:HR ρ h w) (g:GR E ρ h) (t:TR n ρ h w tmps a):
  (Code.rangeFunc f ps asg body).wpIn (FW none) 0 P (PostR n ρ h w (run E (m+1) (.code (.rangeFunc f ps asg body)) tmps h)) a w:=by
 have e:run E (m+1) (.code (.rangeFunc f ps asg body)) tmps h=sRange (run E m) tmps (h.new (.loop tmps ps.toList asg body 0 none)) h.next (cvOf E.globs tmps f):=rfl;rw[e]at hs ⊢;have hf:=t.operand g f;generalize cvOf E.globs tmps f=vf at hs hf ⊢;cases vf<;>first|(exact absurd rfl hs)|skip;rename_i id first caps;obtain⟨a1,a2,hfe,k1,k2⟩:=hf.inv_fn;have e1:sRange (run E m) tmps (h.new (.loop tmps ps.toList asg body 0 none)) h.next (.fn id first caps)=kRange h.next tmps (run E m (.call (.fn id first caps) [.yield h.next]) .leaf (h.new (.loop tmps ps.toList asg body 0 none))):=rfl;rw[e1]at hs ⊢
 have hok:(∀p∈ps.toList,p<a.tmps.size)/\dstsOk a.tmps.size asg=true/\dstsOk a.tmps.size body=true/\noRange asg=true/\noRange body=true:=by
  rw[t.size];simp only[dstsOk]at hc;split at hc
  ·rename_i q1
   split at hc
   ·rename_i q2
    split at hc
    ·rename_i q3
     split at hc
     ·rename_i q4
      refine⟨?_,q2,q3,q4,hc⟩;intro p hp;have:=all1_mem q1 p hp;simpa[Nat.blt_eq]using this
     ·cases hc
    ·cases hc
   ·cases hc
  ·cases hc
 have hcs:run E m (.call (.fn id first caps) [.yield h.next]) .leaf (h.new (.loop tmps ps.toList asg body 0 none))≠ .stop:=by intro e0;rw[e0]at hs;exact hs rfl
 obtain⟨fn,hfn,hname,cd,hbody⟩:=call_fn W hcs;refine wpIn_rangeFunc λfn0 _=> ?_;obtain⟨rec,hrec⟩:∃rec:Loop,rec={state:= .ready,pending:=none,fn:=fn0,tmps:=a.tmps,params:=ps,assign:=asg,body:=body,defers:=w.heap.size}:=⟨_,rfl⟩;obtain⟨w1,hw1⟩:∃w1,(w.alloc (.deferred (some []))).alloc (.loop rec)=w1:=⟨_,rfl⟩
 have hL1:w1.heap[w.heap.size+1]? =some (.loop rec):=by
  rw[<-hw1];have:=World.alloc_heap_new (w.alloc (.deferred (some []))) (.loop rec);rwa[World.size_alloc]at this
 have hK1:w1.heap[w.heap.size]? =some (.deferred (some [])):=by
  rw[<-hw1];exact(alloc_old (by simp)).trans (World.alloc_heap_new w _)
 have hsz1:w1.heap.size=w.heap.size+2:=by rw[<-hw1];simp
 have j0:J ρ h w ρ h (w.alloc (.deferred (some []))):=J.grow hr rfl rfl (by simp) λx hx=>alloc_old hx;have s0:=j0.hr.sub ((w.alloc (.deferred (some []))).heap.size,0) 0
 have j1:J ρ h (w.alloc (.deferred (some []))) (upd ρ h.next ((w.alloc (.deferred (some []))).heap.size,0) 0) (h.new (.loop tmps ps.toList asg body 0 none)) w1:=by
  refine J.new j0.hr 0 (by rw[<-hw1];rfl) (by rw[<-hw1];rfl) (by rw[hsz1];simp) (λx hx=>by rw[<-hw1];exact alloc_old hx) ⟨rfl,rec,by rw[World.size_alloc];exact hL1,?_⟩;subst hrec;exact⟨rfl,rfl,rfl,rfl,rfl,λi=>(t.tmp i).mono s0,hok⟩
 rw[World.size_alloc]at j1 s0;generalize hρ1:upd ρ h.next (w.heap.size+1,0) 0=ρ1 at j1 s0;have hρn:ρ1 h.next=some (w.heap.size+1,0):=by rw[<-hρ1];exact upd_same _ _ _ _
 generalize hh1:h.new (.loop tmps ps.toList asg body 0 none)=h1 at j1 hs hcs ⊢;have hn1:h1.next=h.next+1:=by rw[<-hh1];rfl
 have j01:=j0.trans j1
 have hlive1:¬Live ρ1 h1 w.heap.size:=by
  rintro⟨i,d,q1,q2⟩;by_cases e:i=h.next
  ·subst e;rw[hρn]at q2;simp at q2
  ·rw[<-hρ1,upd_other _ _ _ _ e]at q2
   have:=hr.lt _ _ _ q2;omega
 have hlw1:¬LiveW ρ1 h1 w.heap.size:=λ⟨i,d,c,q1,_,q2⟩=>hlive1 ⟨i,d,by rw[q1];simp,q2⟩
 have mks:∀{ρ2:Rho} {h2:Heap} {w2:World},J ρ1 h1 w1 ρ2 h2 w2->(w2.heap[w.heap.size]? =some (.deferred (some [])))->Mk n.2 ρ2 h2 w2 {a with defers:=[{target:= .collected w.heap.size,args:= #[]}]++a.defers}:=by
  intro ρ2 h2 w2 j hD;have k:=t.mks.step (j01.trans j) (rfl:a.defers=a.defers);refine⟨k.base,λd hd=> ?_,?_⟩
  ·rcases List.mem_cons.1 (show d∈_::a.defers from hd)with rfl|hd
   ·refine⟨w.heap.size,rfl,t.mks.base,hD,λhl=> ?_⟩
    rcases j.own _ hl with q|q
    ·omega
    ·exact hlive1 q
   ·exact k.all d hd
  ·refine List.pairwise_cons.2 ⟨λd hd=> ?_,k.diff⟩
   obtain⟨D,rfl,_,q,_⟩:=t.mks.all d hd;have:=(Array.getElem?_eq_some_iff.1 q).1;intro e;simp at e;omega
 have keepD:∀{ρ2:Rho} {h2:Heap} {w2:World},J ρ1 h1 w1 ρ2 h2 w2->w2.heap[w.heap.size]? =some (.deferred (some [])):=λj=>(j.keep.same _ (by omega) hlw1).trans hK1;refine⟨w.heap.size+1,[{target:= .collected w.heap.size,args:= #[]}],w1,{target:= .fn (.func id) a2,args:=a1++ #[Value.func (.yield (w.heap.size+1)) #[] #[]]},w1,id,a1++ #[Value.func (.yield (w.heap.size+1)) #[] #[]]++a2,w1,?_,?_,λ_ _=>trivial,?_,(λh0=>by cases h0),?_⟩
 ·show(Instr.enterLoop fn0 a.tmps ps asg body none).run P w=_
  rw[<-hw1,hrec];exact run_enterLoop_outer _ _ _ _ _
 ·simp[resolve,hfe,Deferred.ofValue];rfl
 ·simp[invoke,callFunc,hfn,hname,hbody]
 ·have hv:VRs ρ1 (first++[.yield h.next]++caps) (a1++ #[Value.func (.yield (w.heap.size+1)) #[] #[]]++a2).toList:=by
    simp only[Array.toList_append];exact((k1.mono s0).append (VRs.cons (.yield _ _ hρn) (VRs.nil _))).append (k2.mono s0)
  have hcall:=S.call id first caps [.yield h.next] h1 hcs ρ1 w1 _ j1.hr ((g.step j01)) hv;rw[Array.toArray_toList]at hcall;refine CallsIn.mono (show CallsIn (FW none) _ P id _ w1 _ from callsIn_wide.2 hcall) λe4 w3 p=> ?_;cases hrr:run E m (.call (.fn id first caps) [.yield h.next]) .leaf h1 with
  |val v h2=>
   rw[hrr]at p hs;obtain⟨x,ρ2,rfl,p2,p3⟩:=p;simp only[kRange]at hs ⊢;cases hb:h2.get h.next with
   |none=>rw[hb]at hs;exact absurd rfl hs
   |some b=>
    rw[hb]at hs;cases b with
    |loop tm ps1 asg1 body1 st pend=>
     simp only at hs ⊢;cases hst:Nat.beq st 1 with
     |true=>rw[hst]at hs;exact absurd rfl hs
     |false=>
      rw[hst]at hs;simp only at hs ⊢;obtain⟨k,d,q1,q2⟩:=p2.hr.blk _ _ hb;have q3:=(p2.ext h.next (by omega)).1;rw[q1,hρn]at q3;simp only[Option.some.injEq,Prod.mk.injEq]at q3;obtain⟨rfl,rfl⟩:=q3;obtain⟨_,r,hl,L⟩:=q2;have hend:=run_endLoop (P:=P) hl (by rw[L.estate];exact stOf_busy hst);have j3:J ρ2 h2 w3 ρ2 (h2.del h.next) (w3.putObj (w.heap.size+1) (.loop {r with state:= .exhausted})):=J.goneW p2.hr hb rfl q1 rfl rfl (by simp) λx hx=>World.putObj_heap_other hx
      have j4:=p2.trans j3;have j5:=j01.trans j4
      have T:TR n ρ2 (h2.del h.next) (w3.putObj (w.heap.size+1) (.loop {r with state:= .exhausted})) tmps {a with defers:=[{target:= .collected w.heap.size,args:= #[]}]++a.defers}:=
       ⟨t.size,mks j4 (keepD j4),λi=>(t.tmp i).mono (J.sub hr j5)⟩
      refine⟨pend,_,by rw[<-L.epend];exact hend,?_⟩;cases pend with
      |none=>exact⟨trivial,ρ2,j5,T⟩
      |some c=>
       have key:∀{ex:Ex} {e:Exit},EndR ex e->PostR n ρ h w (.code ex tmps (h2.del h.next)) e _ _:=λhe=>⟨he,ρ2,j5,T⟩;cases c<;>first|(exact absurd rfl hs)|skip
       ·exact wpIn_exit (key rfl)
       ·exact wpIn_goto (key rfl)
       ·exact wpIn_ret (key trivial)
    |_=>exact absurd rfl hs
  |pan v h2=>
   rw[hrr]at p hs;obtain⟨x,ρ2,rfl,p2,p3⟩:=p;have j3:=p2.trans (J.gone p2.hr h.next);exact⟨x,ρ2,rfl,j01.trans j3,p3,mks j3 (keepD j3)⟩
  |code _ _ _=>rw[hrr]at p;exact p.elim
  |stop=>exact absurd hrr hcs
def noGo (Q:Exit->Act->World->Prop):Exit->Act->World->Prop
 | .goto _,_,_=>False
 |e,a,w=>Q e a w
theorem stepR_scope {P:Program} {b:Frame} {a:Act} {k:List Item} {cs:List Frame} {w:World} {c:Code}:step P (lone (b.atR a (.code (.scope c)::k)) cs w)= .next (lone (b.atR a (.code c:: .inScope c::k)) cs w):=
 step_lone_go (by simp[stepG,stepG.exec,Frame.atR])
theorem stepR_inScope {P:Program} {b:Frame} {a:Act} {k:List Item} {cs:List Frame} {w:World} {c:Code}:step P (lone (b.atR a (.inScope c::k)) cs w)= .next (lone (b.atR a k) cs w):=
 step_lone_go (by simp[stepG,stepG.exec,Frame.atR])
theorem wpIn_scope {P:Program} {F:Fence} {n:Nat} {Q:Exit->Act->World->Prop} {a:Act} {w:World} {c:Code} (h:c.wpIn F n P (noGo Q) a w):(Code.scope c).wpIn F n P Q a w:=by
 intro b k cs hro hb hr;have h0:(lone (b.atR a (.code (.scope c)::k)) cs w).fenced P F:=fenced_calm hb hr rfl;obtain⟨e,a₁,w₁,hq,harr⟩:=h b (.inScope c::k) cs hro hb hr;cases e with
 |normal=>exact⟨.normal,a₁,w₁,hq,.head h0 stepR_scope (StepsIn.trans harr (.one (fenced_calm hb hr rfl) stepR_inScope))⟩
 |exit id'=>
  have hx:exitTo id' (.inScope c::k)=exitTo id' k:=by simp[exitTo]
  exact⟨.exit id',a₁,w₁,hq,λk' hk=> .head h0 stepR_scope (harr.1 k' (by rw[hx];exact hk)),
   λhr' hk=>let ⟨k₁,h1,h2⟩:=harr.2 hr' (by rw[hx];exact hk);⟨k₁,h1,.head h0 stepR_scope h2⟩⟩
 |goto l=>exact hq.elim
 |ret=>exact⟨_,a₁,w₁,hq,.of_steps (.one h0 stepR_scope) harr⟩
 |panic ch=>exact⟨_,a₁,w₁,hq,.of_steps (.one h0 stepR_scope) harr⟩
 |outgrown=>exact⟨_,a₁,w₁,hq,.of_steps (.one h0 stepR_scope) harr⟩
theorem code_step (W:EnvW P E) (S:Snd P E m) {c:Code} (hs:run E (m+1) (.code c) tmps h≠ .stop) (hc:dstsOk n.1 c=true) (hr:HR ρ h w) (g:GR E ρ h) (t:TR n ρ h w tmps a) (ro:Option Nat) (hro:ro.isSome=true->noRange c=true):
  c.wpIn (FW ro) 0 P (PostR n ρ h w (run E (m+1) (.code c) tmps h)) a w:=by
 have e:run E (m+1) (.code c) tmps h=sCode E (run E m) c tmps h:=rfl;cases c with
 |skip=>exact wpIn_skip (post_here hr t trivial)
 |label l=>exact wpIn_label (post_here hr t trivial)
 |ret=>exact wpIn_ret (post_here hr t trivial)
 |exit id=>exact wpIn_exit (post_here hr t rfl)
 |goto l=>exact wpIn_goto (post_here hr t rfl)
 |region id ops d=>
  have hd:allOk (dstOk n.1) ops.toList=true/\(d=true->drawOk ops.toList=true):=by
   simp only[dstsOk]at hc;split at hc
   ·rename_i h1
    refine⟨h1,λe=> ?_⟩;subst e;exact hc
   ·cases hc
  cases d with
  |false=>
   have e:run E (m+1) (.code (.region id ops false)) tmps h=run E m (.ops ops.toList ops.toList) tmps h:=rfl;rw[e]at hs ⊢;refine wpIn_region ?_;have:=S.ops n ops ops.toList 0 tmps h hs (by simp) (allOk_mem hd.1) ro ρ a w hr g t;rw[List.range_eq_range'];simpa using this
  |true=>
   have e:run E (m+1) (.code (.region id ops true)) tmps h=run E m (.draw (aheads ops.toList []) ops.toList ops.toList 0 []) tmps h:=rfl;rw[e]at hs ⊢;refine wpIn_region_draw λk=> ?_;exact ops_mono (Q:=PostR n ρ h {w with drawn:=w.drawn+1} (run E m (.draw (aheads ops.toList []) ops.toList ops.toList 0 []) tmps h)) (λe a1 w1 p=>PostR.of_world (w:=w) (w0:={w with drawn:=w.drawn+1}) p rfl rfl rfl) _ _ _ (S.draw n ops tmps h hs (allOk_mem hd.1) (hd.2 rfl) ro ρ a {w with drawn:=w.drawn+1} (hr.of_heap rfl) g ⟨t.size,⟨t.mks.base,t.mks.all,t.mks.diff⟩,t.tmp⟩ k)
 |seq x y=>
  have hxy:dstsOk n.1 x=true/\dstsOk n.1 y=true:=by
   simp only[dstsOk]at hc;split at hc
   ·exact⟨by assumption,hc⟩
   ·cases hc
  have hro2:(ro.isSome=true->noRange x=true)/\(ro.isSome=true->noRange y=true):=and_range hro;have e:run E (m+1) (.code (.seq x y)) tmps h=kSeq (run E m) y (run E m (.code x) tmps h):=rfl;rw[e]at hs ⊢;have h1:run E m (.code x) tmps h≠ .stop:=by intro e;rw[e]at hs;exact hs rfl
  refine wpIn_seq (wpIn_mono (S.code n x tmps h h1 hxy.1 ro hro2.1 ρ a w hr g t) λe a' w' p=> ?_);refine seq_step S hxy.2 hs g (λtmps1 h2 ρ1 hrr j t1=> ?_) p;rw[hrr]at hs ⊢;have hs:run E m (.code y) tmps1 h2≠ .stop:=hs;exact wpIn_mono (S.code n y tmps1 h2 hs hxy.2 ro hro2.2 ρ1 a' w' j.hr (g.step j) t1) λe a w p=>p.trans j
 |cond x y z=>
  have hyz:dstsOk n.1 y=true/\dstsOk n.1 z=true:=by
   simp only[dstsOk]at hc;split at hc
   ·exact⟨by assumption,hc⟩
   ·cases hc
  have hro2:(ro.isSome=true->noRange y=true)/\(ro.isSome=true->noRange z=true):=and_range hro;have e:run E (m+1) (.code (.cond x y z)) tmps h=kCond (run E m) y z tmps h (cvOf E.globs tmps x):=rfl;rw[e]at hs ⊢;have hx:=t.operand g x;generalize cvOf E.globs tmps x=vx at hs hx;cases vx<;>first|(exact absurd rfl hs)|skip;rename_i b;have hb:=hx.inv_bool;refine wpIn_cond (t:=b) hb ?_;cases b with
  |true=>exact S.code n y tmps h hs hyz.1 ro hro2.1 ρ a w hr g t
  |false=>exact S.code n z tmps h hs hyz.2 ro hro2.2 ρ a w hr g t
 |block id x=>
  have e:run E (m+1) (.code (.block id x)) tmps h=kBlock id (run E m (.code x) tmps h):=rfl;rw[e]at hs ⊢;have h1:run E m (.code x) tmps h≠ .stop:=by intro e;rw[e]at hs;exact hs rfl
  refine wpIn_block (wpIn_mono (S.code n x tmps h h1 hc ro hro ρ a w hr g t) λe a' w' p=> ?_);cases hrr:run E m (.code x) tmps h with
  |code ex t2 h2=>
   rw[hrr]at p;obtain⟨p1,ρ',p2,p3⟩:=p;cases ex<;>cases e<;>first|exact p1.elim|skip
   ·exact⟨trivial,ρ',p2,p3⟩
   ·rename_i i j
    have p1:i=j:=p1;subst p1;unfold Exit.inBlock;simp only[kBlock];cases hij:Nat.beq i id with
    |true=>
     rw[if_pos (Nat.eq_of_beq_eq_true hij)];exact⟨trivial,ρ',p2,p3⟩
    |false=>
     rw[if_neg (by intro e;subst e;rw[Nat.beq_refl]at hij;cases hij)];exact⟨rfl,ρ',p2,p3⟩
   ·exact⟨p1,ρ',p2,p3⟩
   ·exact⟨trivial,ρ',p2,p3⟩
  |pan v h2=>
   rw[hrr]at p;obtain⟨x,ρ',rfl,p2,p3,p4⟩:=p;exact⟨x,ρ',rfl,p2,p3,p4⟩
  |val v h2=>rw[hrr]at p;exact p.elim
  |stop=>exact absurd hrr h1
 |scope x=>
  have e:run E (m+1) (.code (.scope x)) tmps h=kScope (run E m (.code x) tmps h):=rfl;rw[e]at hs ⊢;have h1:run E m (.code x) tmps h≠ .stop:=by intro e;rw[e]at hs;exact hs rfl
  refine wpIn_scope (wpIn_mono (S.code n x tmps h h1 hc ro hro ρ a w hr g t) λe a' w' p=> ?_);cases hrr:run E m (.code x) tmps h with
  |code ex t2 h2=>
   rw[hrr]at p hs;obtain⟨p1,ρ',p2,p3⟩:=p;cases ex<;>cases e<;>first|exact p1.elim|skip
   ·exact⟨trivial,ρ',p2,p3⟩
   ·exact⟨p1,ρ',p2,p3⟩
   ·exact absurd rfl hs
   ·exact⟨trivial,ρ',p2,p3⟩
  |pan v h2=>
   rw[hrr]at p;obtain⟨x,ρ',rfl,p2,p3,p4⟩:=p;exact⟨x,ρ',rfl,p2,p3,p4⟩
  |val v h2=>rw[hrr]at p;exact p.elim
  |stop=>exact absurd hrr h1
 |rangeFunc f ps asg body=>
  cases ro with
  |some l=>exact absurd (hro rfl) (by simp[noRange])
  |none=>exact range_step W S hs hc hr g t
 |loop x=>exact wpIn_loop_rounds (m+1) (loop_step S hs hc hr g t ro hro)
 |_=>exact absurd rfl hs
theorem setPs_sound:∀{ps:List Nat} {vs:List CV} {tm t:Tm} {xs:List Value} {T:Array Value},setPs ps vs tm=some t->VRs ρ vs xs->(∀p∈ps,p<T.size)->(∀i,VR ρ ((tm.get i).getD .undef) (T.getD i undef))->
  xs.length=ps.length/\((ps.zip xs).foldl (λtmps (t,a)=>tmps.setIfInBounds t a) T).size=T.size/\∀i,VR ρ ((t.get i).getD .undef) (((ps.zip xs).foldl (λtmps (t,a)=>tmps.setIfInBounds t a) T).getD i undef)
 |[],[],tm,t,xs,T,e,hx,_,ht=>by
  cases e;rw[hx.of_nil];exact⟨rfl,rfl,ht⟩
 |p::ps,v::vs,tm,t,xs,T,e,hx,hp,ht=>by
  obtain⟨x,r,rfl,h1,h2⟩:=hx.head;have hlt:=hp p (by simp)
  have:=setPs_sound (ps:=ps) (vs:=vs) (tm:=tm.set p (some v)) (t:=t) (xs:=r) (T:=T.setIfInBounds p x) e h2 (λq hq=>by simpa using hp q (List.mem_cons_of_mem _ hq)) λi=>by
   rw[Tm.get_set];by_cases e:p=i
   ·subst e
    rw[if_pos rfl];simpa[hlt]using h1
   ·rw[if_neg e]
    have q:(T.setIfInBounds p x).getD i undef=T.getD i undef:=by simp[e]
    rw[q];exact ht i
  simpa using this
 |[],_::_,_,_,_,_,e,_,_,_=>by cases e
 |_::_,[],_,_,_,_,e,_,_,_=>by cases e
theorem round_end {w0:World} {ρ0:Rho} {h0:Heap} (j:J ρ0 h0 w0 ρ h w) {i k:Nat} (hi:ρ i=some (k,0)) (jump:Option Code) (hs:kRoundEnd i h (if jump.isNone then 0 else 2) jump jump.isNone≠ .stop):
  ∃v w',(Instr.endRound k jump).run P w= .ok v w'/\PostV ρ0 h0 w0 (kRoundEnd i h (if jump.isNone then 0 else 2) jump jump.isNone) (.returned v) w':=by
 unfold kRoundEnd at hs ⊢;cases hb:h.get i with
 |none=>rw[hb]at hs;exact absurd rfl hs
 |some b=>
  rw[hb]at hs;cases b with
  |loop tm ps asg body st pend=>
   simp only at hs ⊢;obtain⟨k',d,q1,q2⟩:=j.hr.blk _ _ hb;rw[hi]at q1;simp only[Option.some.injEq,Prod.mk.injEq]at q1;obtain⟨rfl,rfl⟩:=q1;obtain⟨_,r,hl,L⟩:=q2;refine⟨_,_,run_endRound jump hl,_,ρ,rfl,j.trans (J.put j.hr hb rfl hi rfl rfl (by simp) (λx hx=>World.putObj_heap_other hx) ⟨rfl,_,World.putObj_heap_same (Array.getElem?_eq_some_iff.1 hl).1,?_⟩),.bool _⟩;exact⟨by cases jump<;>rfl,rfl,L.eps,L.easg,L.ebody,L.tmp,L.ok⟩
  |_=>exact absurd rfl hs
theorem round_step (W:EnvW P E) (S:Snd P E m) {i:Nat} {args:List CV} (hs:run E (m+1) (.call (.yield i) args) .leaf h≠ .stop) (ro:Option Nat) {xs:List Value} (hr:HR ρ h w) (g:GR E ρ h) (hx:VRs ρ args xs):
  ∃l r,ρ i=some (l,0)/\w.heap[l]? =some (.loop r)/\xs.length=r.params.size/\
   RoundIn (FW ro) 0 P l r.fn ((r.params.zip xs.toArray).foldl (λtmps (t,a)=>tmps.setIfInBounds t a) r.tmps) r.assign r.body w (PostV ρ h w (run E (m+1) (.call (.yield i) args) .leaf h)):=by
 have e:run E (m+1) (.call (.yield i) args) .leaf h=sRound (run E m) i args h:=rfl;rw[e]at hs ⊢;unfold sRound at hs ⊢;cases hb:h.get i with
 |none=>rw[hb]at hs;exact absurd rfl hs
 |some b=>
  rw[hb]at hs;cases b with
  |loop tm ps asg body st0 pend0=>
   simp only at hs ⊢;cases hps:setPs ps args tm with
   |none=>rw[hps]at hs;exact absurd rfl hs
   |some t=>
    rw[hps]at hs;simp only at hs ⊢;obtain⟨k,d,hi,rfl,r,hl,L⟩:=hr.blk _ _ hb
    have hin:i<h.next:=by
     rcases Nat.lt_or_ge i h.next with q|q
     ·exact q
     ·rw[hr.fresh i q]at hi;cases hi
    obtain⟨s1,s2,s3⟩:=setPs_sound (T:=r.tmps) hps hx L.ok.1 L.tmp
    have hz:(r.params.zip xs.toArray).foldl (λtmps (t,a)=>tmps.setIfInBounds t a) r.tmps=(ps.zip xs).foldl (λtmps (t,a)=>tmps.setIfInBounds t a) r.tmps:=by
     rw[<-Array.foldl_toList,Array.toList_zip,L.eps]
    refine⟨k,r,hi,hl,by rw[s1,<-L.eps];simp,?_⟩;rw[hz,L.easg,L.ebody];refine roundIn_of_wpIn trivial ?_;show asg.wpIn (FW (some k)) 0 P _ _ w;have h1:run E m (.code asg) t h≠ .stop:=by intro e;rw[e]at hs;exact hs rfl
    refine wpIn_mono (S.code (r.tmps.size,0) asg t h h1 L.ok.2.1 (some k) (λ_=>L.ok.2.2.2.1) ρ _ w hr g ⟨s2,⟨Nat.zero_le _,(λd hd=>by cases hd),List.Pairwise.nil⟩,s3⟩) λe a1 w1 p=> ?_;cases hrr:run E m (.code asg) t h with
    |code ex t1 h2=>
     rw[hrr]at p hs;obtain⟨p1,ρ1,p2,p3⟩:=p;cases ex<;>first|(exact absurd rfl hs)|skip;cases e<;>first|(exact p1.elim)|skip;simp only[kRound1]at hs ⊢;cases hb2:h2.get i with
     |none=>rw[hb2]at hs;exact absurd rfl hs
     |some b2=>
      rw[hb2]at hs;cases b2 with
      |loop tm1 ps1 asg1 bd1 st1 pend1=>
       simp only at hs ⊢;cases hst:Nat.beq st1 0 with
       |false=>rw[hst]at hs;exact absurd rfl hs
       |true=>
        rw[hst]at hs;simp only at hs ⊢;have hst:=Nat.eq_of_beq_eq_true hst;subst hst;have hi1:ρ1 i=some (k,0):=by rw[(p2.ext i hin).1];exact hi
        obtain⟨k',d',q1,rfl,r1,hl1,L1⟩:=p2.hr.blk _ _ hb2;rw[hi1]at q1;simp only[Option.some.injEq,Prod.mk.injEq,and_true]at q1;subst q1;refine⟨_,run_beginRound hl1 L1.estate,?_⟩
        have j2:J ρ1 h2 w1 ρ1 (h2.put i (.loop tm1 ps1 asg1 bd1 1 pend1)) (w1.putObj k (.loop {r1 with state:= .busy})):=
         J.put p2.hr hb2 rfl hi1 rfl rfl (by simp) (λx hx=>World.putObj_heap_other hx) ⟨rfl,_,World.putObj_heap_same (Array.getElem?_eq_some_iff.1 hl1).1,⟨rfl,L1.epend,L1.eps,L1.easg,L1.ebody,L1.tmp,L1.ok⟩⟩
        have h3:run E m (.code body) t1 (h2.put i (.loop tm1 ps1 asg1 bd1 1 pend1))≠ .stop:=by intro e;rw[e]at hs;exact hs rfl
        refine wpIn_mono (S.code (r.tmps.size,0) body t1 _ h3 L.ok.2.2.1 (some k) (λ_=>L.ok.2.2.2.2) ρ1 _ _ j2.hr ((g.step p2).step j2) (p3.step j2 (J.sub p2.hr j2))) λe2 a2 w3 p=> ?_;cases hrr2:run E m (.code body) t1 (h2.put i (.loop tm1 ps1 asg1 bd1 1 pend1))with
        |code ex2 t3 h4=>
         rw[hrr2]at p hs;obtain⟨p1',ρ3,p2',p3'⟩:=p;have hi3:ρ3 i=some (k,0):=by rw[(p2'.ext i (Nat.lt_of_lt_of_le hin (Nat.le_trans p2.next j2.next))).1];exact hi1
         have j4:=(p2.trans j2).trans p2';cases ex2<;>cases e2<;>first|(exact p1'.elim)|skip
         ·exact round_end j4 hi3 none hs
         ·have p1':_=_:=p1'
          subst p1';exact round_end j4 hi3 (some (.exit _)) hs
         ·have p1':_=_:=p1'
          subst p1';exact round_end j4 hi3 (some (.goto _)) hs
         ·exact round_end j4 hi3 (some .ret) hs
        |pan v h4=>rw[hrr2]at hs;exact absurd rfl hs
        |val v h4=>rw[hrr2]at hs;exact absurd rfl hs
        |stop=>exact absurd hrr2 h3
      |_=>exact absurd rfl hs
    |pan v h2=>rw[hrr]at hs;exact absurd rfl hs
    |val v h2=>rw[hrr]at hs;exact absurd rfl hs
    |stop=>exact absurd hrr h1
  |_=>exact absurd rfl hs
theorem drop_cons {α:Type} {l:List α} {k:Nat} {x:α} {r:List α} (e:l.drop k=x::r):l[k]? =some x/\l.drop (k+1)=r:=by
 have h1:k<l.length:=by
  rcases Nat.lt_or_ge k l.length with h|h
  ·exact h
  ·rw[List.drop_of_length_le h]at e;cases e
 rw[List.drop_eq_getElem_cons h1]at e;simp only[List.cons.injEq]at e;exact⟨by rw[List.getElem?_eq_getElem h1,e.1],e.2⟩
theorem callee_sound (W:EnvW P E) (S:Snd P E m) {o:Oper} {c:Call} (ho:o.op= .call c) (hr:HR ρ h w) (g:GR E ρ h) (hop:∀x∈o.op.operands,VR ρ (cvOf E.globs tmps x) (a.eval x)) {r:R}
  (e:sCallee E (run E m) tmps h (c.args.toList.map (cvOf E.globs tmps)) c.callee=r) (hs:r≠ .stop) {next:Act->World->Prop} {Q:Exit->Act->World->Prop}
  (hv:∀v h' x ρ' w',r= .val v h'->J ρ h w ρ' h' w'->VR ρ' v x->next (a.put o.dst x) w')
  (hp:∀v h' x ρ' w',r= .pan v h'->J ρ h w ρ' h' w'->VR ρ' v x->Q (.panic [{v:=x,recovered:=false}]) a w') (ro:Option Nat):o.wpIn (FW ro) 0 P a w next Q:=by
 unfold sCallee at e;split at e
 ·rename_i f hc
  have hf:=hop f (by simp[ho,Op.operands,Call.operands,hc]);have hargs:=rel_list (ρ:=ρ) (a:=a) (f:=cvOf E.globs tmps) (l:=c.args.toList) λx hx=>hop x (by simp[ho,Op.operands,Call.operands];exact .inr (by simpa using hx));generalize cvOf E.globs tmps f=vf at e hf;generalize hag:c.args.toList.map (cvOf E.globs tmps)=vargs at e hargs;cases m with
  |zero=>exact absurd e.symm hs
  |succ m=>
   have e1:run E (m+1) (.call vf vargs) .leaf h=sCall E (run E m) vargs h vf:=rfl;rw[e1]at e;cases vf<;>first|(exact absurd e.symm hs)|skip
   case fn id first caps=>
    obtain⟨a1,a2,hfe,k1,k2⟩:=hf.inv_fn;obtain⟨fn,f1,f2,cd,f3⟩:=call_fn W (id:=id) (first:=first) (caps:=caps) (args:=vargs) (tmps:= .leaf) (h:=h) (m:=m+1) (by rw[e1];intro e0;exact hs (e.symm.trans e0));have hrun:=run_callOp (P:=P) ho hc hfe (w:=w) f1 f2 f3;refine⟨λ_ _=>trivial,?_⟩;rw[Oper.semAt_eq _ _ _ (by intro c0 h0;rw[ho]at h0;cases h0),hrun,Oper.uponIn_enter];refine⟨(λh0=>by cases h0),?_⟩
    have hcall:=S.call id first caps vargs h (by rw[e1];intro e0;exact hs (e.symm.trans e0)) ρ w (a1++c.args.map a.eval++a2).toList hr g (by
     simp only[Array.toList_append,Array.toList_map];exact(k1.append hargs).append k2)
    rw[e1]at hcall;have e3:sCall E (run E m) vargs h (.fn id first caps)=r:=e;rw[e3]at hcall;rw[Array.toArray_toList]at hcall;refine CallsIn.mono (show CallsIn (FW ro) _ P id _ w _ from callsIn_wide.2 hcall) λe4 w' p=> ?_;cases r with
    |val v h'=>
     obtain⟨x,ρ',rfl,p2,p3⟩:=p;exact hv v h' x ρ' w' rfl p2 p3
    |pan v h'=>
     obtain⟨x,ρ',rfl,p2,p3⟩:=p;exact hp v h' x ρ' w' rfl p2 p3
    |code _ _ _=>exact p.elim
    |stop=>exact p.elim
   case yield i=>
    obtain⟨l,hi,hfe⟩:=hf.inv_yield;obtain⟨l',rc,hi',hl,hlen,hR⟩:=S.round i vargs h (by rw[e1];intro e0;exact hs (e.symm.trans e0)) ro ρ w (c.args.map a.eval).toList hr g (by simpa using hargs);rw[hi]at hi';simp only[Option.some.injEq,Prod.mk.injEq,and_true]at hi';subst hi'
    have hrun:(execOp a.eval o).run P w= .ok (.round l rc.fn ((rc.params.zip (c.args.map a.eval).toList.toArray).foldl (λtmps (t,a)=>tmps.setIfInBounds t a) rc.tmps) rc.assign rc.body) w:=by
     have hy:=run_yield (P:=P) (args:=c.args.map a.eval) hl (by simpa using hlen);rw[Array.toArray_toList];unfold execOp;simp[ho,hc,resolve,hfe,Deferred.ofValue,invoke,hy]
    refine⟨λ_ _=>trivial,?_⟩;rw[Oper.semAt_eq _ _ _ (by intro c0 h0;rw[ho]at h0;cases h0),hrun,Oper.uponIn_round];refine⟨(λh0=>by cases h0),?_⟩;rw[e1,e]at hR;refine RoundIn.mono hR λe4 w' p=> ?_;cases r with
    |val v h'=>
     obtain⟨x,ρ',rfl,p2,p3⟩:=p;exact hv v h' x ρ' w' rfl p2 p3
    |pan v h'=>
     obtain⟨x,ρ',rfl,p2,p3⟩:=p;exact hp v h' x ρ' w' rfl p2 p3
    |code _ _ _=>exact p.elim
    |stop=>exact p.elim
 ·rename_i x name hc
  have hf:=hop x (by simp[ho,Op.operands,Call.operands,hc]);have hargs:=rel_list (ρ:=ρ) (a:=a) (f:=cvOf E.globs tmps) (l:=c.args.toList) λx hx=>hop x (by simp[ho,Op.operands,Call.operands,hc];exact .inr (by simpa using hx));generalize cvOf E.globs tmps x=vx at e hf;generalize hag:c.args.toList.map (cvOf E.globs tmps)=vargs at e hargs;cases hmo:methOf E name vx with
  |none=>rw[hmo]at e;exact absurd e.symm hs
  |some p=>
   rw[hmo]at e;have e:run E m (.call (.fn p.1 [] []) (p.2::vargs)) .leaf h=r:=e
   obtain⟨t,v,rfl⟩:∃t v,vx= .iface t v:=by
    cases vx<;>first|(cases hmo;done)|exact⟨_,_,rfl⟩
   obtain⟨y,hxe,hvy⟩:=hf.inv_iface;obtain⟨hp2,hrm⟩:=run_method (P:=P) (w:=w) (ok:=W.ok) hmo hvy;rw[hp2]at e;obtain⟨fn,f1,f2,cd,f3⟩:=call_fn W (id:=p.1) (first:=[]) (caps:=[]) (args:=v::vargs) (tmps:= .leaf) (h:=h) (m:=m) (by rw[e];exact hs);have hrun:=run_invokeOp (P:=P) ho hc hxe hrm f1 f2 f3;refine⟨λ_ _=>trivial,?_⟩;rw[Oper.semAt_eq _ _ _ (by intro c0 h0;rw[ho]at h0;cases h0),hrun,Oper.uponIn_enter];refine⟨(λh0=>by cases h0),?_⟩
   have hcall:=S.call p.1 [] [] (v::vargs) h (by rw[e];exact hs) ρ w (#[y]++c.args.map a.eval).toList hr g (by
    simp only[Array.toList_append,Array.toList_map,List.nil_append,List.append_nil];exact VRs.cons hvy hargs)
   rw[e]at hcall;rw[Array.toArray_toList]at hcall;refine CallsIn.mono (show CallsIn (FW ro) _ P p.1 _ w _ from callsIn_wide.2 hcall) λe4 w' p=> ?_;cases r with
   |val v h'=>
    obtain⟨x,ρ',rfl,p2,p3⟩:=p;exact hv v h' x ρ' w' rfl p2 p3
   |pan v h'=>
    obtain⟨x,ρ',rfl,p2,p3⟩:=p;exact hp v h' x ρ' w' rfl p2 p3
   |code _ _ _=>exact p.elim
   |stop=>exact p.elim
 ·exact absurd e.symm hs
theorem ops_step (W:EnvW P E) (S:Snd P E m) {arr:Array Oper} {rest:List Oper} {k:Nat} (hs:run E (m+1) (.ops arr.toList rest) tmps h≠ .stop) (hk:arr.toList.drop k=rest) (hd:∀o∈rest,dstOk n.1 o=true)
  (hr:HR ρ h w) (g:GR E ρ h) (t:TR n ρ h w tmps a) (ro:Option Nat):wpOpsIn (FW ro) 0 P arr (PostR n ρ h w (run E (m+1) (.ops arr.toList rest) tmps h)) (List.range' k rest.length) a w:=by
 cases rest with
 |nil=>exact post_here hr t trivial
 |cons o r=>
  obtain⟨ho,hk2⟩:=drop_cons hk;have ho:arr[k]? =some o:=by rw[<-Array.getElem?_toList];exact ho
  have hdo:=dstOk_lt (hd o (by simp));have e:run E (m+1) (.ops arr.toList (o::r)) tmps h=sOps E (run E m) arr.toList (o::r) tmps h:=rfl;rw[e]at hs ⊢;simp only[List.length_cons,List.range'_succ,wpOpsIn,ho];unfold sOps at hs ⊢;simp only at hs ⊢;cases hg:guardOn arr.toList tmps o with
  |none=>rw[hg]at hs;exact absurd rfl hs
  |some b=>
   rw[hg]at hs;rw[wanted_sound t hg]
   have next:∀(tmps1:Tm) (h1:Heap) (ρ1:Rho) (a1:Act) (w1:World),run E m (.ops arr.toList r) tmps1 h1≠ .stop->J ρ h w ρ1 h1 w1->TR n ρ1 h1 w1 tmps1 a1->
     wpOpsIn (FW ro) 0 P arr (PostR n ρ h w (run E m (.ops arr.toList r) tmps1 h1)) (List.range' (k+1) r.length) a1 w1:=λtmps1 h1 ρ1 a1 w1 hs1 j t1=>
    ops_mono (λe a w p=>p.trans j) _ _ _ (S.ops n arr r (k+1) tmps1 h1 hs1 hk2 (λo ho=>hd o (List.mem_cons_of_mem _ ho)) ro ρ1 a1 w1 j.hr (g.step j) t1)
   cases b with
   |false=>
    simp only[Bool.false_eq_true,if_false]at hs ⊢;refine⟨λ_ _=>trivial,?_⟩;exact next _ _ ρ _ _ hs (J.refl hr) (t.put (J.refl hr) (Sub.refl _) hdo (VRs.tup (VRs.nil _)))
   |true=>
    simp only[if_true]at hs ⊢;unfold sOp at hs ⊢;cases hop:o.op with
    |call c=>
     rw[hop]at hs;simp only at hs ⊢;cases hbi:isBuiltin c.callee with
     |some b=>
      rw[hbi]at hs;simp only at hs ⊢;have hbc:=isBuiltin_some hbi;cases hv:builtinV E h b c.argTypes.toList (c.args.toList.map (cvOf E.globs tmps))with
      |none=>rw[hv]at hs;exact absurd rfl hs
      |some p=>
       rw[hv]at hs;obtain⟨v,h1⟩:=p;obtain⟨callee,args,tys⟩:=c;simp only at hbc;subst hbc;obtain⟨x,w1,ρ1,g1,g2,g3⟩:=builtin_sound W.ok hr hop hv λx _=>t.operand g x;exact wp_of_gives g1 (next _ _ ρ1 _ _ hs g2 (t.put g2 (J.sub hr g2) hdo g3))
     |none=>
      rw[hbi]at hs;simp only at hs ⊢;cases hcr:sCallee E (run E m) tmps h (c.args.toList.map (cvOf E.globs tmps)) c.callee with
      |val v h1=>
       rw[hcr]at hs;refine callee_sound W S hop hr g (λx _=>t.operand g x) hcr (by simp) (λv' h' x ρ' w' e0 j hv=> ?_) (λv' h' x ρ' w' e0 j hv=>by cases e0) ro;cases e0;exact next _ _ ρ' _ _ hs j (t.put j (J.sub hr j) hdo hv)
      |pan v h1=>
       rw[hcr]at hs;refine callee_sound W S hop hr g (λx _=>t.operand g x) hcr (by simp) (λv' h' x ρ' w' e0 j hv=>by cases e0) (λv' h' x ρ' w' e0 j hv=> ?_) ro;cases e0;exact⟨x,ρ',rfl,j,hv,t.mks.step j rfl⟩
      |code _ _ _=>rw[hcr]at hs;exact absurd rfl hs
      |stop=>rw[hcr]at hs;exact absurd rfl hs
    |panic x=>
     rw[hop]at hs;simp only at hs ⊢;have hx:=t.operand g x;generalize cvOf E.globs tmps x=vx at hs hx;cases vx<;>first|(exact absurd rfl hs)|skip;rename_i ti vi;obtain⟨y,hxe,hv⟩:=hx.inv_iface;refine⟨λ_ _=>trivial,?_⟩
     have hrun:(execOp a.eval o).run P w= .halt (.panic (.iface ti y)) w:=by
      unfold execOp;simp[hop,hxe,Instr.panic]
     rw[Oper.semAt_eq _ _ _ (by intro c0 h0;rw[hop]at h0;cases h0),hrun,Oper.uponIn_panic];exact⟨_,ρ,rfl,J.refl hr,.iface _ _ _ hv,t.mks⟩
    |_=>
     rw[hop]at hs;simp only at hs ⊢
     revert hs
     rw[<-hop];intro hs;cases hv:opVal E o.op (cvOf E.globs tmps) h with
     |none=>rw[hv]at hs;exact absurd rfl hs
     |some p=>
      rw[hv]at hs;obtain⟨v,h1⟩:=p;obtain⟨x,w1,ρ1,g1,g2,g3⟩:=op_sound W.ok hr hv λx _=>t.operand g x;exact wp_of_gives g1 (next _ _ ρ1 _ _ hs g2 (t.put g2 (J.sub hr g2) hdo g3))
def resOne (tmps:Array Value) (r:ResultVar):Sem Value:=
 match r with
 | .tmp t=>pure (tmps.getD t undef)
 | .cell a t=>do loadVar t (<-asAddr (tmps.getD a undef))
theorem results_eq (fn:Func) (tmps:Array Value):results fn tmps=(do let vs <-fn.results.mapM (resOne tmps);pure (if h:vs.size=1 then vs[0]else .tuple vs)):=by
 unfold results
 congr 1
theorem results_run (W:EnvW P E) (hr:HR ρ h w) (g:GR E ρ h) (t:∀t,VR ρ ((tmps.get t).getD .undef) (a.tmps.getD t undef)):∀{rs:List ResultVar} {vs:List CV},resultVals E h tmps rs=some vs->
  ∃xs,(rs.mapM (resOne a.tmps)).run P w= .ok xs w/\VRs ρ vs xs
 |[],vs,e=>by
  cases e;exact⟨[],by simp,VRs.nil _⟩
 | .tmp i::r,vs,e=>by
   simp only[resultVals]at e;split at e
   ·rename_i vs' hv
    cases e;obtain⟨xs,h1,h2⟩:=results_run W hr g t hv;refine⟨a.tmps.getD i undef::xs,?_,VRs.cons (t i) h2⟩;have h0:(resOne a.tmps (.tmp i)).run P w= .ok (a.tmps.getD i undef) w:=rfl;simp only[List.mapM_cons,Sem.run_bind,Sem.run_pure,Result.andThen_ok,h0,h1]
   ·cases e
 | .cell i ty::r,vs,e=>by
   simp only[resultVals]at e;split at e
   ·rename_i p hp
    split at e
    ·rename_i v hv
     split at e
     ·rename_i vs' hvs
      cases e;obtain⟨xs,h1,h2⟩:=results_run W hr g t hvs;have hi:=t i;rw[hp]at hi;obtain⟨i0,off⟩:=p;obtain⟨k,d,hi2,hxe⟩:=hi.inv_ptr;obtain⟨x,h3,h4⟩:=load_sound W.ok hr hv hi2;refine⟨x::xs,?_,VRs.cons h4 h2⟩
      have h0:(resOne a.tmps (.cell i ty)).run P w= .ok x w:=by
       unfold resOne;simp only[Sem.run_bind,hxe,asAddr,Sem.run_pure,Result.andThen_ok];exact h3
      simp only[List.mapM_cons,Sem.run_bind,Sem.run_pure,Result.andThen_ok,h0,h1]
     ·cases e
    ·cases e
   ·cases e
theorem pack_sound {vs:List CV} {xs:List Value} (hv:VRs ρ vs xs):VR ρ (packR vs) (if h:xs.toArray.size=1 then xs.toArray[0]else .tuple xs.toArray):=by
 match vs,hv with
 |[],hv=>rw[hv.of_nil];exact VRs.tup (VRs.nil _)
 |[v],hv=>
  obtain⟨x,r,rfl,h1,h2⟩:=hv.head;have:=h2.of_nil;subst this;simpa[packR]using h1
 |v1::v2::vs,hv=>
  have hl:=hv.1;have:¬xs.toArray.size=1:=by simp at hl ⊢;omega
  rw[dif_neg this];exact VRs.tup (by simpa[packR]using hv)
theorem args_tmps:∀(vs:List CV) (k:Nat) (t0:Tm) (i:Nat),(putArgs k vs t0).get i=if k<=i/\i<k+vs.length then vs[i-k]? else t0.get i
 |[],k,t0,i=>by
  simp only[putArgs,List.length_nil,Nat.add_zero];rw[if_neg (by omega)]
 |v::vs,k,t0,i=>by
  simp only[putArgs,List.length_cons];rw[args_tmps vs (k+1) _ i,Tm.get_set];by_cases h1:k+1<=i/\i<k+1+vs.length
  ·rw[if_pos h1,if_pos (by omega)]
   have:i-k=(i-(k+1))+1:=by omega
   rw[this];rfl
  ·rw[if_neg h1]
   by_cases h2:k=i
   ·subst h2
    rw[if_pos rfl,if_pos (by omega)];simp
   ·rw[if_neg h2,if_neg (by omega)]
theorem J.unmark {ρ':Rho} {h':Heap} {w':World} (j:J ρ h w ρ' h' w') {D:Nat} (hd:w.heap.size<=D) (hl:¬Live ρ' h' D) (o:Obj):J ρ h w ρ' h' {w' with heap:=w'.heap.setIfInBounds D o}:=by
 refine⟨j.ext,j.next,⟨λi b hb=> ?_,j.hr.inj,j.hr.fresh,λi k d hk=>by simpa using j.hr.lt i k d hk⟩,⟨j.keep.os,j.keep.out,by simpa using j.keep.size,λb hb hlb=> ?_⟩,j.own,j.ownW⟩
 ·obtain⟨k,d,h1,h2⟩:=j.hr.blk i b hb
  refine⟨k,d,h1,h2.later (Sub.refl _) ?_⟩;have:D≠k:=λe=>hl ⟨i,d,by rw[hb];simp,by rw[e];exact h1⟩;exact Array.getElem?_setIfInBounds_ne this
 ·have:D≠b:=by omega
  show(w'.heap.setIfInBounds D o)[b]? =_;rw[Array.getElem?_setIfInBounds_ne this];exact j.keep.same b hb hlb
theorem leaves_marks {ρ':Rho} {h':Heap} {fn:Func} {tm:Array Value} {R:Ending->World->Prop} {u:FrameMode} (fin:∀w2,J ρ h w ρ' h' w2->LeavesIn Fence.wide 0 P fn tm R [] u w2):
  ∀(ds:List Deferred) (w1:World),u≠ .run->J ρ h w ρ' h' w1->(∀d∈ds,∃D,d={target:= .collected D,args:= #[]}/\w.heap.size<=D/\w1.heap[D]? =some (.deferred (some []))/\¬Live ρ' h' D)->(ds.Pairwise λd d'=>d.target≠d'.target)->
  LeavesInM Fence.wide 0 P fn tm R ds u w1
 |[],w1,_,j,_,_=>fin w1 j
 |d::ds,w1,hu,j,ha,hp=>by
  obtain⟨D,rfl,k1,k2,k3⟩:=ha d (by simp);rw[List.pairwise_cons]at hp;refine⟨hu,.inl ⟨D,{w1 with heap:=w1.heap.setIfInBounds D (.deferred none)},rfl,?_,?_⟩⟩
  ·simp[Instr.takeDeferred,getObj,setObj,Sem.run,k2,Result.andThen]
  ·refine leaves_marks fin ds _ hu (j.unmark k1 k3 _) (λd' hd'=> ?_) hp.2
   obtain⟨D',rfl,q1,q2,q3⟩:=ha d' (List.mem_cons_of_mem _ hd');refine⟨D',rfl,q1,?_,q3⟩;have hne:D≠D':=λe=>hp.1 _ hd' (by rw[e]);show(w1.heap.setIfInBounds D _)[D']? =_;rw[Array.getElem?_setIfInBounds_ne hne];exact q2
theorem call_step (W:EnvW P E) (S:Snd P E m) {f:FuncId} {first caps args:List CV} (hs:run E (m+1) (.call (.fn f first caps) args) .leaf h≠ .stop) {xs:List Value} (hr:HR ρ h w) (g:GR E ρ h) (hx:VRs ρ (first++args++caps) xs):
  Calls P f xs.toArray w (PostV ρ h w (run E (m+1) (.call (.fn f first caps) args) .leaf h)):=by
 have e:run E (m+1) (.call (.fn f first caps) args) .leaf h=sFn E (run E m) (first++args++caps) h f (kfind h E.globs f (first++args++caps) E.known):=rfl;rw[e]at hs ⊢;generalize first++args++caps=vs at hs hx;cases hk:kfind h E.globs f vs E.known with
 |some v=>
  rw[hk]at hs;obtain⟨e0,k1,k2,σ,k4,k5⟩:=kfind_mem hk;have K:=W.known _ k1;subst k2;simp only[sFn]at hs ⊢;cases hb:rowsHold h E.rows with
  |false=>rw[hb]at hs;exact absurd rfl hs
  |true=>
   have hc:=known_hr hr g.glob k4 W.rows hb;refine(K.calls w (rhoC ρ E.globs σ) xs hc (λi hi=>(rhoC_lt hi).1.trans (g.glob i hi)) ((mtE_sound k4).2.2.2 ρ xs hx)).mono λe' w' p=> ?_;obtain⟨x,ρ1,rfl,p1,p2⟩:=p;obtain⟨ρ2,q1,q2⟩:=known_add hr g.next k4 p1 k5;exact⟨x,ρ2,rfl,q1,q2 x p2⟩
 |none=>
 rw[hk]at hs;simp only[sFn]at hs ⊢;unfold sBody at hs ⊢;cases hfs:E.fn f with
 |none=>rw[hfs]at hs;exact absurd rfl hs
 |some s=>
  rw[hfs]at hs;simp only at hs ⊢;cases hcd:s.body with
  |none=>rw[hcd]at hs;exact absurd rfl hs
  |some cd=>
   rw[hcd]at hs;simp only at hs ⊢;obtain⟨fn,f1,f2,f3,f4⟩:=W.ok.fn f s hfs;cases hle:Nat.ble (len vs) s.ntmps with
   |false=>rw[hle]at hs;exact absurd rfl hs
   |true=>
    rw[hle]at hs;simp only at hs ⊢;have hle:=Nat.le_of_ble_eq_true hle;rw[len_eq]at hle;have h1:run E m (.code cd) (putArgs 0 vs .leaf) h≠ .stop:=by intro e;rw[e]at hs;exact hs rfl
    refine callsIn_wide.1 (callsIn_of_wp_marks (F:=Fence.wide) (n:=0) f1 (f4.trans hcd) trivial ?_);have hxl:xs.length=vs.length:=hx.1
    have t:TR (s.ntmps,w.heap.size) ρ h w (putArgs 0 vs .leaf) {tmps:=xs.toArray++Array.replicate (fn.ntmps-xs.toArray.size) undef,defers:=[]}:=by
     refine⟨by simp;omega,⟨Nat.le_refl _,(λd hd=>by cases hd),List.Pairwise.nil⟩,λi=> ?_⟩;rw[args_tmps];by_cases hi:0<=i/\i<0+vs.length
     ·rw[if_pos hi]
      have h2:=hx.2 i (by omega)
      have e1:(xs.toArray++Array.replicate (fn.ntmps-xs.toArray.size) undef).getD i undef=xs.getD i undef:=by
       have hlt:i<xs.length:=by omega
       simp[Array.getD_eq_getD_getElem?,List.getD_eq_getElem?_getD,Array.getElem?_append,hlt]
      simp only[Nat.sub_zero];rw[e1];simpa[List.getD_eq_getElem?_getD]using h2
     ·rw[if_neg hi,Tm.get_leaf]
      exact .undef _
    refine wpIn_mono (S.code (s.ntmps,w.heap.size) cd _ h h1 (W.dst f s cd hfs hcd) none (by simp) ρ _ w hr g t) λe a' w' p=> ?_
    have fin:∀{ex:Ex} {t2:Tm} {h2:Heap} {vs':List CV},run E m (.code cd) (putArgs 0 vs .leaf) h= .code ex t2 h2->resultVals E h2 t2 s.results=some vs'->∀ρ',J ρ h w ρ' h2 w'->TR (s.ntmps,w.heap.size) ρ' h2 w' t2 a'->
      LeavesInM Fence.wide 0 P fn a'.tmps (λe w'=>PostV ρ h w (.val (packR vs') h2) e w') a'.defers .returning w':=by
     intro ex t2 h2 vs' hrr hres ρ' j t2';refine leaves_marks (λw2 j2=> ?_) a'.defers w' (by simp) j (λd hd=>t2'.mks.all d hd) t2'.mks.diff;obtain⟨ys,r1,r2⟩:=results_run W j2.hr (g.step j2) t2'.tmp hres;refine⟨_,?_,_,ρ',rfl,j2,pack_sound r2⟩;rw[results_eq,Sem.run_bind,Array.mapM_eq_mapM_toList,Sem.run_map,f3,r1];rfl
    cases hrr:run E m (.code cd) (putArgs 0 vs .leaf) h with
    |code ex t2 h2=>
     rw[hrr]at p hs;obtain⟨p1,ρ',p2,p3⟩:=p;cases ex with
     |normal=>
      simp only[kBody]at hs ⊢;cases hres:resultVals E h2 t2 s.results with
      |none=>rw[hres]at hs;exact absurd rfl hs
      |some vs'=>
       cases e<;>first|exact p1.elim|skip;exact fin hrr hres ρ' p2 p3
     |ret=>
      simp only[kBody]at hs ⊢;cases hres:resultVals E h2 t2 s.results with
      |none=>rw[hres]at hs;exact absurd rfl hs
      |some vs'=>
       cases e<;>first|exact p1.elim|skip;exact fin hrr hres ρ' p2 p3
     |exit i=>exact absurd rfl hs
     |goto i=>exact absurd rfl hs
    |pan v h2=>
     rw[hrr]at p;obtain⟨x,ρ',rfl,p2,p3,p4⟩:=p;refine leaves_marks (ρ':=ρ') (h':=h2) (u:= .panicking [{v:=x,recovered:=false}]) (λw2 j2=> ?_) a'.defers w' (by simp) p2 (λd hd=>p4.all d hd) p4.diff;exact⟨x,ρ',rfl,j2,p3⟩
    |val v h2=>rw[hrr]at p;exact p.elim
    |stop=>exact absurd hrr h1
end
end Go.CM
