/- The walk: code that draws no order. No condition. -/
import Derived.Test.YtfheibkikpefkaaGreatDoorCmY
import Derived.LoopNIn
import Derived.OrdersIn
import Derived.RangeFuncRecord
import Derived.RangeFuncIn
set_option linter.unusedVariables false
set_option linter.unusedSimpArgs false
noncomputable section
namespace Go.CM
structure KnownOk (P:Program) (g:Nat) (rows:List (Nat×List CV)) (e:KE):Prop where
 fn:∃fn,P.funcs[e.f]? =some fn/\¬fn.name= "runtime.NumGoroutine" /\∃c,fn.body=some c
 calls:∀(w:World) (ρ:Rho) (xs:List Value),HR ρ (heapOf g rows e.blks) w->(∀i,i<g->ρ i=some (i,0))->VRs ρ e.args xs->
  Calls P e.f xs.toArray w λe' w'=>∃x ρ',e'= .returned x/\J ρ (heapOf g rows e.blks) w ρ' (kAdd (heapOf g rows e.blks) e.news) w'/\VR ρ' e.res x
structure EnvW (P:Program) (E:Env):Prop where
 ok:EnvOk P E
 dst:∀f s c,E.fn f=some s->s.body=some c->dstsOk s.ntmps c=true
 name:∀f s fn,E.fn f=some s->P.funcs[f]? =some fn->(fn.name== "runtime.NumGoroutine")=false
 mixed:P.follows .mixedOrders=true
 known:∀e∈E.known,KnownOk P E.globs E.rows e
 rows:∀r∈E.rows,r.1<E.globs/\r.2.all CV.plain=true
def FW (ro:Option Nat):Fence:={Fence.wide with round:=ro}
structure Mk (B:Nat) (ρ:Rho) (h:Heap) (w:World) (a:Act):Prop where
 base:B<=w.heap.size
 all:∀d∈a.defers,∃D,d={target:= .collected D,args:= #[]}/\B<=D/\w.heap[D]? =some (.deferred (some []))/\¬Live ρ h D
 diff:a.defers.Pairwise λd d'=>d.target≠d'.target
theorem Mk.step {B:Nat} {ρ ρ1:Rho} {h h1:Heap} {w w1:World} {a a1:Act} (k:Mk B ρ h w a) (j:J ρ h w ρ1 h1 w1) (e:a1.defers=a.defers):Mk B ρ1 h1 w1 a1:=by
 refine⟨Nat.le_trans k.base j.keep.size,λd hd=> ?_,by rw[e];exact k.diff⟩;rw[e]at hd;obtain⟨D,k1,k2,k3,k4⟩:=k.all d hd;have hlt:D<w.heap.size:=(Array.getElem?_eq_some_iff.1 k3).1;refine⟨D,k1,k2,?_,λhl=> ?_⟩
 ·rw[j.keep.same D hlt (λhl=>k4 ?_)]
  ·exact k3
  ·obtain⟨i,e,c,q1,_,q3⟩:=hl
   exact⟨i,e,by rw[q1];simp,q3⟩
 ·rcases j.own D hl with h|h
  ·omega
  ·exact k4 h
structure TR (n:Nat×Nat) (ρ:Rho) (h:Heap) (w:World) (tmps:Tm) (a:Act):Prop where
 size:a.tmps.size=n.1
 mks:Mk n.2 ρ h w a
 tmp:∀t,VR ρ ((tmps.get t).getD .undef) (a.tmps.getD t undef)
structure GR (E:Env) (ρ:Rho) (h:Heap):Prop where
 glob:∀g,g<E.globs->ρ g=some (g,0)
 next:E.globs<=h.next
def EndR:Ex->Exit->Prop
 | .normal,.normal=>True
 | .exit i,.exit j=>i=j
 | .goto i,.goto j=>i=j
 | .ret,.ret=>True
 |_,_=>False
def PostR (n:Nat×Nat) (ρ:Rho) (h:Heap) (w:World) (r:R) (e:Exit) (a':Act) (w':World):Prop:=
 match r with
 | .code ex tmps' h'=>EndR ex e/\∃ρ',J ρ h w ρ' h' w'/\TR n ρ' h' w' tmps' a'
 | .pan v h'=>∃x ρ',e= .panic [{v:=x,recovered:=false}]/\J ρ h w ρ' h' w'/\VR ρ' v x/\Mk n.2 ρ' h' w' a'
 |_=>False
def PostV (ρ:Rho) (h:Heap) (w:World) (r:R) (e:Ending) (w':World):Prop:=
 match r with
 | .val v h'=>∃x ρ',e= .returned x/\J ρ h w ρ' h' w'/\VR ρ' v x
 | .pan v h'=>∃x ρ',e= .panicked [{v:=x,recovered:=false}]/\J ρ h w ρ' h' w'/\VR ρ' v x
 |_=>False
section
variable {P:Program} {E:Env} {n:Nat×Nat} {ρ ρ1:Rho} {h h1:Heap} {w w1:World} {tmps:Tm} {a:Act}
theorem GR.step (g:GR E ρ h) (j:J ρ h w ρ1 h1 w1):GR E ρ1 h1:=
 ⟨λi hi=>by rw[(j.ext i (Nat.lt_of_lt_of_le hi g.next)).1];exact g.glob i hi,Nat.le_trans g.next j.next⟩
theorem TR.step (t:TR n ρ h w tmps a) (j:J ρ h w ρ1 h1 w1) (s:Sub ρ ρ1):TR n ρ1 h1 w1 tmps a:=⟨t.size,t.mks.step j rfl,λi=>(t.tmp i).mono s⟩
theorem TR.operand (t:TR n ρ h w tmps a) (g:GR E ρ h) (x:Operand):VR ρ (cvOf E.globs tmps x) (a.eval x):=by
 unfold cvOf;split
 ·exact t.tmp _
 ·rename_i v
  cases hc:constCV v with
  |none=>exact .undef _
  |some c=>exact constCV_sound hc
 ·rename_i i
  split
  ·rename_i hi
   have hi:i<E.globs:=by simpa[Nat.blt_eq]using hi
   exact VR.ptr (ρ:=ρ) i 0 i 0 (g.glob i hi)
  ·exact .undef _
 ·exact VRs.fn (VRs.nil _) (VRs.nil _)
theorem TR.put (t:TR n ρ h w tmps a) (j:J ρ h w ρ1 h1 w1) (s:Sub ρ ρ1) {dst:Option Nat} {v:CV} {x:Value} (hd:∀d,dst=some d->d<n.1) (hv:VR ρ1 v x):TR n ρ1 h1 w1 (putTmp tmps dst v) (a.put dst x):=by
 cases dst with
 |none=>exact t.step j s
 |some d=>
  have hlt:d<a.tmps.size:=by rw[t.size];exact hd d rfl
  refine⟨by simp[Act.put,t.size],t.mks.step j rfl,λi=> ?_⟩;simp only[putTmp,Tm.get_set];by_cases e:d=i
  ·subst e
   have:(a.put (some d) x).tmps.getD d undef=x:=by simp[Act.put,hlt]
   rw[this,if_pos rfl];exact hv
  ·rw[if_neg e]
   have:(a.put (some d) x).tmps.getD i undef=a.tmps.getD i undef:=by simp[Act.put,e]
   rw[this];exact(t.tmp i).mono s
theorem dstOk_lt {n:Nat} {o:Oper} (hd:dstOk n o=true):∀d,o.dst=some d->d<n:=by
 intro d e;unfold dstOk at hd;rw[e]at hd;simpa[Nat.blt_eq]using hd
theorem allOk_mem {p:Oper->Bool}:∀{l:List Oper},allOk p l=true->∀o∈l,p o=true
 |[],_,o,ho=>by cases ho
 |x::l,hl,o,ho=>by
  have hl:(match p x with|true=>allOk p l|false=>false)=true:=hl
  cases hp:p x with
  |false=>rw[hp]at hl;cases hl
  |true=>
   rw[hp]at hl;rcases List.mem_cons.1 ho with rfl|ho
   ·exact hp
   ·exact allOk_mem hl o ho
theorem PostR.trans {r:R} {e:Exit} {a':Act} {w':World} (j:J ρ h w ρ1 h1 w1) (p:PostR n ρ1 h1 w1 r e a' w'):PostR n ρ h w r e a' w':=by
 cases r with
 |code ex t2 h2=>
  obtain⟨p1,ρ',p2,p3⟩:=p;exact⟨p1,ρ',j.trans p2,p3⟩
 |pan v h2=>
  obtain⟨x,ρ',p1,p2,p3,p4⟩:=p;exact⟨x,ρ',p1,j.trans p2,p3,p4⟩
 |val v h2=>exact p.elim
 |stop=>exact p.elim
theorem wanted_sound {arr:Array Oper} (t:TR n ρ h w tmps a) {o:Oper} {b:Bool} (e:guardOn arr.toList tmps o=some b):Region.wanted o (yielded arr a.tmps)=b:=by
 unfold guardOn at e;unfold Region.wanted;split at e
 ·rename_i hg
  cases e;rw[hg]
 ·rename_i g hg
  rw[hg];obtain⟨j,want⟩:=g;simp only at e ⊢;unfold yieldOf at e;split at e
  ·rename_i oj hoj
   rw[nth_eq]at hoj;split at e
   ·rename_i d hd
    split at e
    ·rename_i y' hget
     cases e;have ht:=t.tmp d;rw[hget]at ht;have hv:=ht.inv_bool;have hoj:arr[j]? =some oj:=by rw[<-Array.getElem?_toList];exact hoj
     have hsome:a.tmps[d]? =some (.bool y'):=by
      rcases Nat.lt_or_ge d a.tmps.size with hlt|hge
      ·simp[hlt]at hv
       simp[hlt,hv]
      ·simp[Nat.not_lt.2 hge]at hv
       cases hv
     simp[yielded,hoj,hd,hsome]
    ·rename_i l hget
     split at e
     ·cases e
      have ht:=t.tmp d;rw[hget]at ht;have hoj:arr[j]? =some oj:=by rw[<-Array.getElem?_toList];exact hoj
      obtain⟨xs,hx,hxs⟩:=ht.inv_tup
      have hnil:xs= #[]:=by
       have:=hxs.of_nil;exact Array.toList_eq_nil_iff.1 this
      subst hnil
      have hsome:a.tmps[d]? =some (.tuple #[])\/a.tmps[d]? =none:=by
       rcases Nat.lt_or_ge d a.tmps.size with hlt|hge
       ·simp[hlt]at hx
        simp[hlt,hx]
       ·exact .inr (by simp[hge])
      rcases hsome with hsome|hsome<;>simp[yielded,hoj,hd,hsome]
     ·cases e
    ·cases e
   ·cases e
  ·cases e
structure Snd (P:Program) (E:Env) (m:Nat):Prop where
 code:∀(n:Nat×Nat) (c:Code) (tmps:Tm) (h:Heap),run E m (.code c) tmps h≠ .stop->dstsOk n.1 c=true->∀(ro:Option Nat),(ro.isSome=true->noRange c=true)->∀(ρ:Rho) (a:Act) (w:World),HR ρ h w->GR E ρ h->TR n ρ h w tmps a->
  c.wpIn (FW ro) 0 P (PostR n ρ h w (run E m (.code c) tmps h)) a w
 loop:∀(n:Nat×Nat) (c:Code) (tmps:Tm) (h:Heap),run E m (.code (.loop c)) tmps h≠ .stop->dstsOk n.1 c=true->∀(ro:Option Nat),(ro.isSome=true->noRange c=true)->∀(ρ:Rho) (a:Act) (w:World),HR ρ h w->GR E ρ h->TR n ρ h w tmps a->
  Code.roundsIn (FW ro) 0 P c (PostR n ρ h w (run E m (.code (.loop c)) tmps h)) m a w
 ops:∀(n:Nat×Nat) (arr:Array Oper) (rest:List Oper) (k:Nat) (tmps:Tm) (h:Heap),run E m (.ops arr.toList rest) tmps h≠ .stop->arr.toList.drop k=rest->(∀o∈rest,dstOk n.1 o=true)->
  ∀(ro:Option Nat) (ρ:Rho) (a:Act) (w:World),HR ρ h w->GR E ρ h->TR n ρ h w tmps a->wpOpsIn (FW ro) 0 P arr (PostR n ρ h w (run E m (.ops arr.toList rest) tmps h)) (List.range' k rest.length) a w
 draw:∀(n:Nat×Nat) (arr:Array Oper) (tmps:Tm) (h:Heap),run E m (.draw (aheads arr.toList []) arr.toList arr.toList 0 []) tmps h≠ .stop->(∀o∈arr.toList,dstOk n.1 o=true)->drawOk arr.toList=true->
  ∀(ro:Option Nat) (ρ:Rho) (a:Act) (w:World),HR ρ h w->GR E ρ h->TR n ρ h w tmps a->∀t,wpOpsIn (FW ro) 0 P arr (PostR n ρ h w (run E m (.draw (aheads arr.toList []) arr.toList arr.toList 0 []) tmps h)) (Region.schedule (P.follows .mixedOrders) arr t) a w
 call:∀(f:FuncId) (first caps args:List CV) (h:Heap),run E m (.call (.fn f first caps) args) .leaf h≠ .stop->∀(ρ:Rho) (w:World) (xs:List Value),HR ρ h w->GR E ρ h->VRs ρ (first++args++caps) xs->
  Calls P f xs.toArray w (PostV ρ h w (run E m (.call (.fn f first caps) args) .leaf h))
 round:∀(i:Nat) (args:List CV) (h:Heap),run E m (.call (.yield i) args) .leaf h≠ .stop->∀(ro:Option Nat) (ρ:Rho) (w:World) (xs:List Value),HR ρ h w->GR E ρ h->VRs ρ args xs->
  ∃l r,ρ i=some (l,0)/\w.heap[l]? =some (.loop r)/\xs.length=r.params.size/\
   RoundIn (FW ro) 0 P l r.fn ((r.params.zip xs.toArray).foldl (λtmps (t,a)=>tmps.setIfInBounds t a) r.tmps) r.assign r.body w (PostV ρ h w (run E m (.call (.yield i) args) .leaf h))
theorem rounds_mono {ro:Option Nat} {c:Code} {Q Q':Exit->Act->World->Prop} (hq:∀e a w,Q e a w->Q' e a w):∀(m:Nat) (a:Act) (w:World),Code.roundsIn (FW ro) 0 P c Q m a w->Code.roundsIn (FW ro) 0 P c Q' m a w
 |0,_,_,hr=>hr.elim
 |m+1,a,w,hr=>by
  rw[roundsIn_succ]at hr ⊢;refine wpIn_mono hr λe a w hh=> ?_;cases e with
  |normal=>exact rounds_mono hq m a w hh
  |_=>exact hq _ _ _ hh
theorem lets_mono {Q Q':Exit->Act->World->Prop} (hq:∀e a w,Q e a w->Q' e a w) (h:LetsOut Q):LetsOut Q':=by
 obtain⟨a0,w0,h2⟩:=h;exact⟨a0,w0,hq _ _ _ h2⟩
theorem op_mono {ro:Option Nat} {o:Oper} {K K':Act->World->Prop} {Q Q':Exit->Act->World->Prop} (hk:∀a w,K a w->K' a w) (hq:∀e a w,Q e a w->Q' e a w) (hh:o.wpIn (FW ro) 0 P a w K Q):o.wpIn (FW ro) 0 P a w K' Q':=by
 unfold Oper.wpIn at*;refine⟨hh.1,?_⟩;have hh:=hh.2;generalize (o.semAt (FW ro).round a.eval).run P w=r at*;cases r with
 |ok x w'=>
  cases x<;>simp only[Oper.uponIn]at hh ⊢ <;>
   first
    |exact hk _ _ hh
    |exact⟨hh.1,CallsIn.mono hh.2 (λe w'' he=>by cases e<;>first|exact hk _ _ he|exact hq _ _ _ he|exact lets_mono hq he)⟩
    |exact⟨hh.1,RowsIn.mono hh.2 (λ_ _ he=>hk _ _ he)⟩
    |exact⟨hh.1,RoundIn.mono hh.2 (λe w'' he=>by cases e<;>first|exact hk _ _ he|exact hq _ _ _ he|exact lets_mono hq he)⟩
 |halt x w'=>cases x<;>simp only[Oper.uponIn]at hh ⊢ <;>first|exact hq _ _ _ hh|exact hh
theorem ops_mono {ro:Option Nat} {arr:Array Oper} {Q Q':Exit->Act->World->Prop} (hq:∀e a w,Q e a w->Q' e a w):∀(l:List Nat) (a:Act) (w:World),wpOpsIn (FW ro) 0 P arr Q l a w->wpOpsIn (FW ro) 0 P arr Q' l a w
 |[],_,_,hh=>hq _ _ _ hh
 |i::r,a,w,hh=>by
  simp only[wpOpsIn]at hh ⊢;cases ho:arr[i]? with
  |none=>rw[ho]at hh;exact ops_mono hq r a w hh
  |some o=>
   rw[ho]at hh;simp only at hh ⊢;split at hh
   ·rename_i hw
    rw[if_pos hw];exact op_mono (λa w=>ops_mono hq r a w) hq hh
   ·rename_i hw
    rw[if_neg hw];exact⟨hh.1,ops_mono hq r _ _ hh.2⟩
theorem Gives.semAt {o:Oper} {x:Value} {w':World} (g:Gives P o a w x w') (ro:Option Nat):o.semAt ro a.eval=execOp a.eval o:=by
 refine Oper.semAt_eq ro a.eval o λc ho=> ?_;unfold Gives execOp at g;rw[ho]at g;simp only[Sem.run_bind]at g;cases hr:(resolve a.eval c o.type).run P w with
 |ok d w1=>rw[hr]at g;simp at g
 |halt d w1=>rw[hr]at g;simp[Result.andThen]at g
theorem wp_of_gives {ro:Option Nat} {o:Oper} {x:Value} {w':World} {next:Act->World->Prop} {Q:Exit->Act->World->Prop} (g:Gives P o a w x w') (hn:next (a.put o.dst x) w'):o.wpIn (FW ro) 0 P a w next Q:=by
 refine⟨λ_ _=>trivial,?_⟩;rw[g.semAt];rcases g with g|⟨g,rfl⟩
 ·rw[g,Oper.uponIn_value];exact hn
 ·rw[g,Oper.uponIn_skip];exact hn
theorem isBuiltin_some {c:Callee} {b:Builtin} (e:isBuiltin c=some b):c= .builtin b:=by
 unfold isBuiltin at e;split at e
 ·cases e;rfl
 ·cases e
theorem run_callOp {o:Oper} {c:Call} {f:Operand} (ho:o.op= .call c) (hc:c.callee= .value f) {id:FuncId} {a1 a2:Array Value} (hf:a.eval f= .func (.func id) a1 a2) {fn:Func} {cd:Code} (h1:P.funcs[id]? =some fn) (hn:¬fn.name= "runtime.NumGoroutine") (hb:fn.body=some cd):
  (execOp a.eval o).run P w= .ok (.enter id (a1++c.args.map a.eval++a2)) w:=by
 unfold execOp;simp[ho,hc,resolve,hf,Deferred.ofValue,invoke,callFunc,h1,hn,hb]
theorem findMeth_find {name:String} {p:FuncId×Bool}:∀{l:List Method},findMeth name (methsOf l)=some p->∃m,l.find? (·.name==name)=some m/\m.func=some p/\m.path.toList=[]
 |[],e=>by cases e
 |m::l,e=>by
  have e:(match m.name==name with|true=>(match m.func with|some p=>(match m.path.toList with|[]=>some p|_=>none)|none=>none)|false=>findMeth name (methsOf l))=some p:=e
  rw[List.find?_cons];cases hn:m.name==name with
  |true=>
   rw[hn]at e;refine⟨m,rfl,?_⟩;simp only at e;split at e
   ·rename_i q hq
    split at e
    ·rename_i hp
     rw[hq,<-e];exact⟨rfl,hp⟩
    ·cases e
   ·cases e
  |false=>
   rw[hn]at e;exact findMeth_find e
theorem run_method {ok:EnvOk P E} {name:String} {t:TypeId} {v:CV} {y:Value} {r:FuncId×CV} (e:methOf E name (.iface t v)=some r) (hv:VR ρ v y):r.2=v/\(method (P.types.size+Made.depth) t y name).run P w= .ok (r.1,y) w:=by
 unfold methOf at e;simp only at e;split at e
 ·rename_i s hs
  obtain⟨i,d,z,k⟩:=ok.row hs;split at e
  ·rename_i p hm
   rw[k.meths]at hm;obtain⟨m,h1,h2,h3⟩:=findMeth_find hm;have h1':i.methods.find? (·.name==name)=some m:=by rw[<-Array.find?_toList];exact h1
   obtain⟨n,hn⟩:∃n,P.types.size+Made.depth=n+1:=⟨P.types.size+Made.depth-1,by unfold Made.depth;omega⟩;rw[hn];have hk:=k.kind;split at e
   ·rename_i el hkp
    split at e
    ·rename_i hp
     cases e;have hd:=kind_pointer (k.kind.symm.trans hkp);subst hd;refine⟨rfl,?_⟩;simp[method,typeInfo,k.info,h1',h2,h3,follow,receiverAt,run_underlying k.und,hp,Place.get]
    ·cases e
   ·rename_i hnp
    split at e
    ·cases e
    ·rename_i hp
     cases e;refine⟨rfl,?_⟩;have:∀el,d≠ .pointer el:=λel hd=>by subst hd;exact hnp el hk
     cases d<;>first|(exact absurd rfl (this _))|simp[method,typeInfo,k.info,h1',h2,h3,follow,receiverAt,run_underlying k.und,hp,Place.get]
  ·cases e
 ·cases e
theorem run_invokeOp {o:Oper} {c:Call} {x:Operand} {name:String} (ho:o.op= .call c) (hc:c.callee= .invoke x name) {t:TypeId} {y:Value} {id:FuncId} (hx:a.eval x= .iface t y) (hm:(method (P.types.size+Made.depth) t y name).run P w= .ok (id,y) w)
  {fn:Func} {cd:Code} (h1:P.funcs[id]? =some fn) (hn:¬fn.name= "runtime.NumGoroutine") (hb:fn.body=some cd):
  (execOp a.eval o).run P w= .ok (.enter id (#[y]++c.args.map a.eval)) w:=by
 have e1:(#[a.eval x]++c.args.map a.eval)[0]? =some (.iface t y):=by
  rw[hx,<-Array.getElem?_toList,Array.toList_append];rfl
 have e2:(Array.map a.eval c.args).extract 0 c.args.size=Array.map a.eval c.args:=by
  apply Array.ext';simp only[Array.toList_extract,List.extract_eq_take_drop,List.drop_zero,Nat.sub_zero];rw[List.take_of_length_le (by simp)]
 unfold execOp;simp[ho,hc,resolve,invoke,e1,e2,callMethod,hm,callFunc,h1,hn,hb]
end
end Go.CM
