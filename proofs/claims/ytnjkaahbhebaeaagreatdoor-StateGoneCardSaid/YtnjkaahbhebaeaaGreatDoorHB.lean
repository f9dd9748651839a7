/- States in plain words: when one may be, the runs that go; without its last delay. No condition, no program. -/
import Derived.Test.YtnjkaahbhebaeaaGreatDoorZB
import Derived.Test.YtnjkaahbhebaeaaGreatDoorXZ
set_option linter.unusedVariables false
set_option linter.unusedSimpArgs false
noncomputable section
namespace Go.CM.Tt
open Go.CM
def ltG (a b:Int×Int):Prop:=a.1<b.1\/(a.1=b.1/\a.2<b.2)
/-- IDs in order. -/
def SortG (l:List (Int×Int)):Prop:=∀(m n:Nat) (v w:Int×Int),m<n->l[m]? =some v->l[n]? =some w->ltG v w
def StateD.runX (s:StateD) (id:Int×Int):RunD×Bool:=
 (((s.w.oneX id.1 id.2).1.lates (delaysL s.late id)).1,((s.w.oneX id.1 id.2).1.lates (delaysL s.late id)).2&&decide (((s.w.oneX id.1 id.2).1.lates (delaysL s.late id)).1.lastA<=s.w.hz))
def StateD.lateAt (s:StateD) (d:LateD):Prop:=1<=d.by_/\d.by_<=1099511627776/\(s.w.oneX d.trip d.no).2=0/\0<=d.pos/\d.pos+1<((s.w.routeOf (s.w.tripAt d.trip.toNat)).stops.length:Int)
/-- Its delays and the runs that are gone may be. -/
structure StateD.LG (s:StateD):Prop where
 many:s.late.length<=4096
 sort:SortK s.late
 at_:∀d∈s.late,s.lateAt d
 run:∀d∈s.late,(s.runX (ofL d)).2=true
 sortG:SortG s.gone
 there:∀g∈s.gone,(s.w.oneX g.1 g.2).2=0
theorem SortK.nil:SortK []:=λm n v w _ h1 _=>by simp at h1
theorem SortK.more {l:List LateD} {k:Nat} (hk:k<l.length) (g:SortK (l.take k)) (h:∀j (hj:j+1=k),ltK (l[j]'(by omega)) l[k]):SortK (l.take (k+1)):=by
 intro m n v w hmn h1 h2
 have i1:=(List.getElem?_eq_some_iff.1 h1).1
 have i2:=(List.getElem?_eq_some_iff.1 h2).1
 rw[List.length_take]at i1 i2
 rw[List.getElem?_take_of_lt (by omega)]at h1 h2
 have last:∀m u,m<k->l[m]? =some u->ltK u l[k]:=λm u hm hu=>by
  obtain⟨j,rfl⟩:∃j,k=j+1:=⟨k-1,by omega⟩
  have hj:=h j rfl
  by_cases e:m=j
  ·subst e
   rw[List.getElem?_eq_getElem (by omega)]at hu
   rw[<-Option.some.inj hu];exact hj
  ·exact(g m j u l[j] (by omega) (by rw[List.getElem?_take_of_lt (by omega)];exact hu) (by rw[List.getElem?_take_of_lt (by omega),List.getElem?_eq_getElem (by omega)])).trans hj
 by_cases e:n=k
 ·subst e
  rw[List.getElem?_eq_getElem hk]at h2
  rw[<-Option.some.inj h2]
  exact last m v hmn h1
 ·exact g m n v w hmn (by rw[List.getElem?_take_of_lt (by omega)];exact h1) (by rw[List.getElem?_take_of_lt (by omega)];exact h2)
theorem SortK.adj {l:List LateD} (g:SortK l) {j:Nat} (hj:j+1<l.length):ltK (l[j]'(by omega)) l[j+1]:=g j (j+1) _ _ (by omega) (List.getElem?_eq_getElem _) (List.getElem?_eq_getElem hj)
theorem ltG.trans {a b c:Int×Int} (h1:ltG a b) (h2:ltG b c):ltG a c:=by unfold ltG at*;omega
theorem SortG.more {l:List (Int×Int)} {k:Nat} (hk:k<l.length) (g:SortG (l.take k)) (h:∀j (hj:j+1=k),ltG (l[j]'(by omega)) l[k]):SortG (l.take (k+1)):=by
 intro m n v w hmn h1 h2
 have i1:=(List.getElem?_eq_some_iff.1 h1).1
 have i2:=(List.getElem?_eq_some_iff.1 h2).1
 rw[List.length_take]at i1 i2
 rw[List.getElem?_take_of_lt (by omega)]at h1 h2
 have last:∀m u,m<k->l[m]? =some u->ltG u l[k]:=λm u hm hu=>by
  obtain⟨j,rfl⟩:∃j,k=j+1:=⟨k-1,by omega⟩
  have hj:=h j rfl
  by_cases e:m=j
  ·subst e
   rw[List.getElem?_eq_getElem (by omega)]at hu
   rw[<-Option.some.inj hu];exact hj
  ·exact(g m j u l[j] (by omega) (by rw[List.getElem?_take_of_lt (by omega)];exact hu) (by rw[List.getElem?_take_of_lt (by omega),List.getElem?_eq_getElem (by omega)])).trans hj
 by_cases e:n=k
 ·subst e
  rw[List.getElem?_eq_getElem hk]at h2
  rw[<-Option.some.inj h2]
  exact last m v hmn h1
 ·exact g m n v w hmn (by rw[List.getElem?_take_of_lt (by omega)];exact h1) (by rw[List.getElem?_take_of_lt (by omega)];exact h2)
theorem SortG.adj {l:List (Int×Int)} (g:SortG l) {j:Nat} (hj:j+1<l.length):ltG (l[j]'(by omega)) l[j+1]:=g j (j+1) _ _ (by omega) (List.getElem?_eq_getElem _) (List.getElem?_eq_getElem hj)
theorem cmpG_neg {a b:Int×Int}:orI [cmpI a.1 b.1,cmpI a.2 b.2]<0↔ltG a b:=by
 unfold ltG
 have z1:=cmpI_zero (a:=a.1) (b:=b.1)
 have n1:=cmpI_neg (a:=a.1) (b:=b.1)
 have n2:=cmpI_neg (a:=a.2) (b:=b.2)
 have z2:=cmpI_zero (a:=a.2) (b:=b.2)
 unfold orI
 split
 ·rename_i e1
  unfold orI
  split
  ·rename_i e2
   unfold orI
   exact Iff.intro (λh=>by omega) (λh=>by have:=z1.1 e1;have:=z2.1 e2;omega)
  ·rename_i e2
   rw[n2]
   exact Iff.intro (λh=> .inr ⟨z1.1 e1,h⟩) (λh=>by have:=z1.1 e1;omega)
 ·rename_i e1
  rw[n1]
  exact Iff.intro .inl (λh=>by have:¬a.1=b.1:=λe=>e1 (z1.2 e);omega)
/-- What the delays are asked. -/
def StateD.LateOk (s:StateD):Prop:=SortK s.late/\(∀d∈s.late,s.lateAt d)/\∀d∈s.late,(s.runX (ofL d)).2=true
/-- What the runs that are gone are asked. -/
def StateD.GoneOk (s:StateD):Prop:=SortG s.gone/\∀g∈s.gone,(s.w.oneX g.1 g.2).2=0
def RunD.id (r:RunD):Int×Int:=(r.trip,r.no)
/-- A run as it is. -/
def StateD.asIs (s:StateD) (r:RunD):RunD:=(r.lates (delaysL s.late r.id)).1
/-- The runs that go. -/
def StateD.goes (s:StateD):List RunD:=((s.w.runs s.w.trips.length).filter λr=>decide (r.id∉s.gone)).map s.asIs
theorem runs_mem {w:WorldD} {x:RunD}:∀k:Nat,x∈w.runs k->∃j no:Nat,j<k/\(no:Int)<w.cntAt j/\x=w.runAt j (no:Int)
 |0,h=>by cases h
 |k+1,h=>by
  have h:x∈w.runs k++w.runsT k (w.cntAt k).toNat:=h
  rcases List.mem_append.1 h with h|h
  ·obtain⟨j,no,h1,h2⟩:=runs_mem k h
   exact⟨j,no,by omega,h2⟩
  ·obtain⟨no,hn,rfl⟩:=List.mem_map.1 h
   have:=List.mem_range.1 hn
   exact⟨k,no,by omega,by omega,rfl⟩
theorem runs_one {w:WorldD} (c:w.check.err=0) {x:RunD} (h:x∈w.runs w.trips.length):w.oneX x.trip x.no=(x,0):=by
 obtain⟨j,no,hj,hn,rfl⟩:=runs_mem _ h
 have f:=WorldD.fine c
 obtain⟨t,r,jr,T⟩:=f.at hj
 have hh:w.hasAt j (no:Int):=by
  rw[T.has,WorldD.has_iff T.v.1 (by omega)]
  unfold WorldD.cntAt at hn
  rwa[T.at_,T.of_]at hn
 exact WorldD.oneX_there c hj hh
theorem runs_long {w:WorldD} (c:w.check.err=0) {x:RunD} (h:x∈w.runs w.trips.length):0<x.arr.length/\x.arr.length<=33/\x.dep.length=x.arr.length:=by
 obtain⟨j,no,hj,hn,rfl⟩:=runs_mem _ h
 have f:=WorldD.fine c
 obtain⟨t,r,jr,T⟩:=f.at hj
 rw[T.run]
 show 0<(r.arrs _ _).length/\(r.arrs _ _).length<=33/\(r.deps _ _).length=(r.arrs _ _).length
 rw[RouteW.arrs_len,RouteW.deps_len]
 have:=T.tame.1
 omega
theorem one_long {w:WorldD} {n no:Int} (h:(w.oneX n no).2=0):0<(w.oneX n no).1.arr.length/\(w.oneX n no).1.arr.length<=33/\(w.oneX n no).1.dep.length=(w.oneX n no).1.arr.length/\(w.oneX n no).1.trip=n/\(w.oneX n no).1.no=no:=by
 obtain⟨c,j,rfl,hj,hh⟩:=WorldD.oneX_zero h
 have f:=WorldD.fine c
 obtain⟨t,r,jr,T⟩:=f.at hj
 rw[WorldD.oneX_there c hj hh,T.run]
 show 0<(r.arrs _ _).length/\(r.arrs _ _).length<=33/\(r.deps _ _).length=(r.arrs _ _).length/\_
 rw[RouteW.arrs_len,RouteW.deps_len]
 have:=T.tame.1
 exact⟨by omega,by omega,by omega,rfl,rfl⟩
theorem delaysL_app {l m:List LateD} {id:Int×Int}:delaysL (l++m) id=delaysL l id++delaysL m id:=List.filter_append ..
theorem delaysL_mem {l:List LateD} {id:Int×Int} {d:LateD}:d∈delaysL l id↔d∈l/\ofL d=id:=by
 unfold delaysL
 rw[List.mem_filter,decide_eq_true_eq]
theorem lates_app {D E:List LateD}:∀{r:RunD},r.lates (D++E)=if(r.lates D).2 then(r.lates D).1.lates E else r.lates D:=by
 induction D with
 |nil=>intro r;rfl
 |cons d t ih=>
  intro r
  show(if(r.later d.pos d.by_).2=0 then(r.later d.pos d.by_).1.lates (t++E)else((r.later d.pos d.by_).1,false))=_
  by_cases c:(r.later d.pos d.by_).2=0
  ·rw[if_pos c,ih]
   have e:r.lates (d::t)=(r.later d.pos d.by_).1.lates t:=by
    show(if(r.later d.pos d.by_).2=0 then _ else _)=_
    rw[if_pos c]
   rw[e]
  ·rw[if_neg c]
   have e:r.lates (d::t)=((r.later d.pos d.by_).1,false):=by
    show(if(r.later d.pos d.by_).2=0 then _ else _)=_
    rw[if_neg c]
   rw[e];rfl
theorem lates_one {r:RunD} {d:LateD}:r.lates [d]=if(r.later d.pos d.by_).2=0 then((r.later d.pos d.by_).1,true)else((r.later d.pos d.by_).1,false):=rfl
theorem lates_keep:∀{D:List LateD} {r:RunD},(r.lates D).2=true->(r.lates D).1.trip=r.trip/\(r.lates D).1.no=r.no/\(r.lates D).1.arr.length=r.arr.length/\(r.lates D).1.dep.length=r.dep.length
 |[],_,_=>⟨rfl,rfl,rfl,rfl⟩
 |d::t,r,h=>by
  by_cases c:(r.later d.pos d.by_).2=0
  ·have e:r.lates (d::t)=(r.later d.pos d.by_).1.lates t:=by
     show(if(r.later d.pos d.by_).2=0 then _ else _)=_
     rw[if_pos c]
   rw[e]at h ⊢
   obtain⟨h1,h2,h3,h4⟩:=lates_keep h
   obtain⟨k1,k2,k3,k4⟩:=RunD.later_len c
   exact⟨h1.trans k3,h2.trans k4,h3.trans k1,h4.trans k2⟩
  ·have e:r.lates (d::t)=((r.later d.pos d.by_).1,false):=by
     show(if(r.later d.pos d.by_).2=0 then _ else _)=_
     rw[if_neg c]
   rw[e]at h;cases h
theorem StateD.LG.ok {s:StateD} (g:s.LG) {r:RunD} (h:s.w.oneX r.trip r.no=(r,0)):(r.lates (delaysL s.late r.id)).2=true:=by
 cases e:delaysL s.late r.id with
 |nil=>rfl
 |cons d t=>
  have hm:d∈delaysL s.late r.id:=by rw[e];simp
  obtain⟨h1,h2⟩:=delaysL_mem.1 hm
  have h3:=g.run d h1
  rw[h2]at h3
  unfold StateD.runX at h3
  rw[show(r.id.1)=r.trip from rfl,show r.id.2=r.no from rfl,h]at h3
  have h3:=(Bool.and_eq_true_iff.1 h3).1
  rw[e]at h3
  exact h3
theorem StateD.LG.keep {s:StateD} (g:s.LG) {r:RunD} (h:s.w.oneX r.trip r.no=(r,0)):(s.asIs r).trip=r.trip/\(s.asIs r).no=r.no/\(s.asIs r).arr.length=r.arr.length/\(s.asIs r).dep.length=r.dep.length:=lates_keep (g.ok h)
/-- Later by one delay: what comes of it. -/
theorem later_what {r:RunD} {f d:Int} (h:(r.later f d).2=0):r.timesOk/\0<=f/\f<(r.arr.length:Int)-1/\0<=d/\(r.later f d).1=⟨r.trip,r.no,laterA f.toNat d r.arr,laterD f.toNat d r.dep⟩:=by
 by_cases c1:¬r.timesOk\/f<0\/(r.arr.length:Int)-1<=f\/d<0
 ·rw[RunD.later_bad c1]at h;cases h
 by_cases c2:1099511627776-r.arr.getD (r.arr.length-1) 0<d
 ·rw[RunD.later_far c1 c2]at h;cases h
 rw[RunD.later_ok c1 c2]
 refine⟨Classical.not_not.1 λe=>c1 (.inl e),?_,?_,?_,rfl⟩<;>omega
theorem laterD_getD {f:Nat} {d:Int} {l:List Int} {p:Nat} (h:p<l.length):(laterD f d l).getD p 0=l.getD p 0+if f<=p then d else 0:=by
 have h2:p<(laterD f d l).length:=by simp[laterD];exact h
 rw[getZ h,getZ h2,laterD_get h2 h]
 split<;>omega
theorem laterA_getD {f:Nat} {d:Int} {l:List Int} {p:Nat} (h:p<l.length):(laterA f d l).getD p 0=l.getD p 0+if f<p\/(p=0/\f=0)then d else 0:=by
 have h2:p<(laterA f d l).length:=by simp[laterA];exact h
 rw[getZ h,getZ h2,laterA_get h2 h]
 split<;>omega
theorem SortK.pre {l m:List LateD} (g:SortK (l++m)):SortK l:=λa b v w h h1 h2=>by
 have i1:=(List.getElem?_eq_some_iff.1 h1).1
 have i2:=(List.getElem?_eq_some_iff.1 h2).1
 exact g a b v w h (by rw[List.getElem?_append_left i1];exact h1) (by rw[List.getElem?_append_left i2];exact h2)
/-- Whether a delay is a run's. -/
def LateD.isOf (d:LateD) (r:RunD):Prop:=r.trip=d.trip/\r.no=d.no
instance {d:LateD} {r:RunD}:Decidable (d.isOf r):=inferInstanceAs (Decidable (_/\_))
/-- Without the last delay a run is as it was, but for that delay. -/
theorem StateD.less_run {s:StateD} {L:List LateD} {d:LateD} (hl:s.late=L++[d]) (g:s.LG) {r:RunD} (h:s.w.oneX r.trip r.no=(r,0)):
  (r.lates (delaysL L r.id)).2=true/\(¬d.isOf r->s.asIs r=(r.lates (delaysL L r.id)).1)/\(d.isOf r->0<=d.pos/\0<=d.by_/\((r.lates (delaysL L r.id)).1.later d.pos d.by_).2=0/\s.asIs r=((r.lates (delaysL L r.id)).1.later d.pos d.by_).1):=by
 have ok:=g.ok h
 unfold StateD.asIs
 rw[hl,delaysL_app]at ok ⊢
 by_cases c:d.isOf r
 ·have e:delaysL [d] r.id=[d]:=List.filter_cons_of_pos (p:=λd=>decide (ofL d=r.id)) (decide_eq_true (by unfold ofL RunD.id;rw[c.1,c.2]))
  rw[e,lates_app]at ok ⊢
  by_cases k:(r.lates (delaysL L r.id)).2=true
  ·rw[if_pos k,lates_one]at ok ⊢
   by_cases z:((r.lates (delaysL L r.id)).1.later d.pos d.by_).2=0
   ·rw[if_pos z]
    have w:=later_what z
    exact⟨k,λn=>absurd c n,λ_=>⟨w.2.1,w.2.2.2.1,z,rfl⟩⟩
   ·rw[if_neg z]at ok;cases ok
  ·rw[if_neg k]at ok;exact absurd ok k
 ·have e:delaysL [d] r.id=[]:=by
    unfold delaysL
    rw[List.filter_cons_of_neg]
    ·rfl
    ·rw[decide_eq_true_eq]
     intro e
     exact c ⟨(congrArg Prod.fst e).symm,(congrArg Prod.snd e).symm⟩
  rw[e,List.append_nil]at ok ⊢
  exact⟨ok,λ_=>rfl,λk=>absurd k c⟩
theorem StateD.less {s:StateD} {L:List LateD} {d:LateD} (hl:s.late=L++[d]) (g:s.LG):(⟨s.w,L,s.gone⟩:StateD).LG:=by
 refine⟨by have:=g.many;rw[hl,List.length_append]at this;show L.length<=_;omega,by have:=g.sort;rw[hl]at this;exact this.pre,λe he=>g.at_ e (by rw[hl];exact List.mem_append_left _ he),λe he=> ?_,g.sortG,g.there⟩
 have hm:e∈s.late:=by rw[hl];exact List.mem_append_left _ he
 have h0:=(g.at_ e hm).2.2.1
 have h1:=g.run e hm
 obtain⟨r,hr⟩:∃r,s.w.oneX e.trip e.no=(r,0):=⟨_,Prod.ext rfl h0⟩
 have hid:r.trip=e.trip/\r.no=e.no:=by
  obtain⟨c,j,e1,e2,e3⟩:=WorldD.oneX_zero h0
  rw[e1,WorldD.oneX_there c e2 e3]at hr
  have hr:=show s.w.runAt j e.no=r from congrArg Prod.fst hr
  rw[<-hr,e1]
  exact⟨rfl,rfl⟩
 have hone:s.w.oneX r.trip r.no=(r,0):=by rw[hid.1,hid.2];exact hr
 have hI:ofL e=r.id:=by unfold ofL RunD.id;rw[hid.1,hid.2]
 obtain⟨k1,k2,k3⟩:=StateD.less_run hl g hone
 rw[hI]at h1 ⊢
 unfold StateD.runX at h1 ⊢
 rw[show r.id.1=r.trip from rfl,show r.id.2=r.no from rfl,hone]at h1
 show((((s.w.oneX r.trip r.no).1.lates (delaysL L r.id)).2)&&decide (((s.w.oneX r.trip r.no).1.lates (delaysL L r.id)).1.lastA<=s.w.hz))=true
 rw[hone]
 have h2:=of_decide_eq_true (Bool.and_eq_true_iff.1 h1).2
 have h2:(s.asIs r).lastA<=s.w.hz:=h2
 refine Bool.and_eq_true_iff.2 ⟨k1,decide_eq_true ?_⟩
 by_cases c:d.isOf r
 ·obtain⟨p1,p2,p3,p4⟩:=k3 c
  have w:=later_what p3
  rw[p4,w.2.2.2.2]at h2
  have ln:=w.2.2.1
  obtain⟨b,hb⟩:∃b,b=(r.lates (delaysL L r.id)).1:=⟨_,rfl⟩
  rw[<-hb]at h2 ln ⊢
  unfold RunD.lastA at h2 ⊢
  have e1:(laterA d.pos.toNat d.by_ b.arr).length=b.arr.length:=by simp[laterA]
  have h2:(laterA d.pos.toNat d.by_ b.arr).getD ((laterA d.pos.toNat d.by_ b.arr).length-1) 0<=s.w.hz:=h2
  rw[e1,laterA_getD (by omega),if_pos (.inl (by omega))]at h2
  omega
 ·rw[<-k2 c];exact h2
/-- What the law asks of each run. -/
theorem StateD.less_at {s:StateD} {L:List LateD} {d:LateD} (hl:s.late=L++[d]) (g:s.LG) {r:RunD} (h:s.w.oneX r.trip r.no=(r,0)):
  (s.asIs r).dep.length=((⟨s.w,L,s.gone⟩:StateD).asIs r).dep.length/\(¬d.isOf (s.asIs r)->s.asIs r=(⟨s.w,L,s.gone⟩:StateD).asIs r)/\
  ∀p:Nat,p<(s.asIs r).dep.length->(s.asIs r).dep.getD p 0=((⟨s.w,L,s.gone⟩:StateD).asIs r).dep.getD p 0+if d.isOf (s.asIs r)/\d.pos<=(p:Int)then d.by_ else 0:=by
 obtain⟨k1,k2,k3⟩:=StateD.less_run hl g h
 have kk:=g.keep h
 have iso:d.isOf (s.asIs r)↔d.isOf r:=by unfold LateD.isOf;rw[kk.1,kk.2.1]
 have eb:(⟨s.w,L,s.gone⟩:StateD).asIs r=(r.lates (delaysL L r.id)).1:=rfl
 rw[eb]
 by_cases c:d.isOf r
 ·obtain⟨p1,p2,p3,p4⟩:=k3 c
  have w:=later_what p3
  rw[p4,w.2.2.2.2]at iso ⊢
  have e1:∀{l:List Int},(laterD d.pos.toNat d.by_ l).length=l.length:=by intro l;simp[laterD]
  refine⟨e1,λn=>absurd (iso.2 c) n,λp hp=> ?_⟩
  have hp:p<(laterD d.pos.toNat d.by_ (r.lates (delaysL L r.id)).1.dep).length:=hp
  rw[e1]at hp
  show(laterD _ _ _).getD p 0=_
  rw[laterD_getD hp]
  by_cases z:d.pos<=(p:Int)
  ·rw[if_pos (show d.pos.toNat<=p by omega),if_pos ⟨iso.2 c,z⟩]
  ·rw[if_neg (show ¬d.pos.toNat<=p by omega),if_neg (λh=>z h.2)]
 ·rw[k2 c]at iso ⊢
  exact⟨rfl,λ_=>rfl,λp _=>by rw[if_neg (λh=>c (iso.1 h.1)),Int.add_zero]⟩
end Go.CM.Tt

noncomputable section
namespace Go.CM.Tt
open Go.CM
/-- A row of one's own whose runs lie anywhere but in the row and in the blocks B. -/
def OutB (h:Heap) (lo:Nat) (B:Nat->Prop) (v:CV) (css:List (List CV)) (l:List RunD):Prop:=
 OwnR h lo 4 v css/\css.length=l.length/\(∀(j:Nat) (e:List CV) (d:RunD),css[j]? =some e->l[j]? =some d->Rp.R h e d)/\(∀a∈idsIn css,a<h.next/\a∉idOf v/\¬B a)/\∀a∈idOf v,¬B a
section
variable {h h':Heap} {lo:Nat} {B:Nat->Prop} {v:CV} {css:List (List CV)} {l:List RunD} {e:List CV} {d:RunD}
theorem rp_run_ids (r:Rp.R h e d):∀k∈idsOf e,k<h.next:=by
 obtain⟨x1,x2,rfl,s1,s2⟩:=r
 intro k hk
 have hk:k∈idOf x1++(idOf x2++[]):=hk
 have one:∀{x:CV} {m:List Int},Sl h x m->k∈idOf x->k<h.next:=λ{x m} s hx=>by
  obtain⟨cc,sg,_⟩:=s
  rcases sg with⟨rfl,_⟩|⟨rfl,_⟩|⟨i,o,c,y,cs,ro,rfl,h2,_⟩
  ·cases hx
  ·cases hx
  ·rw[List.mem_singleton.1 (show k∈[i]from hx)];exact h2
 simp only[List.mem_append,List.not_mem_nil,or_false]at hk
 exact hk.elim (one s1) (one s2)
theorem rp_run_other (r:Rp.R h e d) (hn:h.next<=h'.next) (hk:∀k,k∈idsOf e->h'.get k=h.get k):Rp.R h' e d:=by
 obtain⟨x1,x2,rfl,s1,s2⟩:=r
 have one:∀{x:CV} {m:List Int},Sl h x m->(∀k∈idOf x,k∈idOf x1++(idOf x2++[]))->Sl h' x m:=λ{x m} s hx=>by
  refine Sl.of_map Flat.iff ?_
  rcases Sl.to_map Flat.iff s with s|s|⟨i,o,c,y,cs,ro,rfl,h2,h3,h4⟩
  ·exact .inl s
  ·exact .inr (.inl s)
  ·exact .inr (.inr ⟨i,o,c,y,cs,ro,rfl,by omega,(hk i (hx i (by simp[idOf]))).trans h3,h4⟩)
 exact⟨x1,x2,rfl,one s1 (λk hk=>List.mem_append_left _ hk),one s2 (λk hk=>List.mem_append_right _ (List.mem_append_left _ hk))⟩
theorem runsB_at {P:Nat->Prop} (o:RunsB h lo P v css l) {k:Nat} (hk:k<l.length):∃i off c x e,v= .slice (some (i,off)) l.length c x/\LocE h i (off+k*4) e/\OwnRn h lo e l[k]/\css[k]? =some e:=by
 obtain⟨o1,o2,o3,_⟩:=o
 obtain⟨i,off,c,x,cs,ro,g1,g2,g3,g4⟩:=o1.sl.at (j:=k) (by omega)
 obtain⟨e,he⟩:∃e,css[k]? =some e:=⟨_,List.getElem?_eq_getElem (by omega)⟩
 obtain⟨k1,k2⟩:=g4 k e he
 exact⟨i,off,c,x,e,by rw[g1,o2],⟨cs,ro,g3,g2,by rw[k1];exact k2⟩,o3 k e l[k] he (List.getElem?_eq_getElem hk),he⟩
theorem OutB.nil:OutB h lo B (.slice none 0 0 0) [] []:=⟨OwnR.nil,rfl,λj e d he=>by simp at he,λa ha=>by simp[idsIn]at ha,λa ha=>by simp[idOf]at ha⟩
theorem OutB.keep (o:OutB h lo B v css l) (hn:h.next<=h'.next) (hk:∀k,k<h.next->¬B k->h'.get k=h.get k):OutB h' lo B v css l:=by
 obtain⟨o1,o2,o3,o4,o5⟩:=o
 refine⟨o1.other hn λk _ hk2 hi=>hk k hk2 (o5 k (by rw[hi];simp)),o2,λj e d he hd=>rp_run_other (o3 j e d he hd) hn λk hi=> ?_,λa ha=>⟨Nat.lt_of_lt_of_le (o4 a ha).1 hn,(o4 a ha).2⟩,o5⟩
 have:=o4 k (List.mem_flatMap.2 ⟨e,List.mem_of_getElem? he,hi⟩)
 exact hk k this.1 this.2.2
theorem OutB.more {h1:Heap} {v':CV} (o:OutB h lo B v css l) (X:Ext h h1) (hP:∀k,B k->k<h1.next) (E:Rp.R h1 e d) (hE:∀k∈idsOf e,¬B k/\k∉idOf v)
  (om:OwnR h' lo 4 v' (css++[e])) (hk:∀k,k<h1.next->idOf v≠[k]->h'.get k=h1.get k) (hn:h'.next=h1.next+1) (hi:idOf v'=[h1.next]):OutB h' lo B v' (css++[e]) (l++[d]):=by
 obtain⟨o1,o2,o3,o4,o5⟩:=o
 have nX:=X.next
 have ov:∀k,k∉idOf v->idOf v≠[k]:=λk hk e=>hk (by rw[e];simp)
 have Ei:=rp_run_ids E
 refine⟨om,by rw[List.length_append,List.length_append,o2];rfl,λj e1 d1 he hd=> ?_,λa ha=> ?_,λa ha=> ?_⟩
 ·by_cases hj:j<css.length
  ·rw[List.getElem?_append_left hj]at he
   rw[List.getElem?_append_left (by omega)]at hd
   refine rp_run_other (Rp.ext X (o3 j e1 d1 he hd)) (by omega) λk hi2=> ?_
   have:=o4 k (List.mem_flatMap.2 ⟨e1,List.mem_of_getElem? he,hi2⟩)
   exact hk k (by omega) (ov k this.2.1)
  ·have hj2:j=css.length:=by
     have:=(List.getElem?_eq_some_iff.1 he).1
     simp only[List.length_append,List.length_cons,List.length_nil]at this
     omega
   subst hj2
   rw[List.getElem?_append_right (Nat.le_refl _),Nat.sub_self]at he
   rw[List.getElem?_append_right (by omega),o2,Nat.sub_self]at hd
   have he:e=e1:=by simpa using he
   have hd:d=d1:=by simpa using hd
   subst he hd
   exact rp_run_other E (by omega) λk hi2=>hk k (Ei k hi2) (ov k (hE k hi2).2)
 ·have ha:a∈List.flatMap idsOf (css++[e]):=ha
  rw[List.flatMap_append,List.mem_append]at ha
  rw[hi]
  rcases ha with ha|ha
  ·have:=o4 a ha
   exact⟨by omega,by rw[List.mem_singleton];omega,this.2.2⟩
  ·have ha:a∈idsOf e:=by simpa using ha
   have:=Ei a ha
   exact⟨by omega,by rw[List.mem_singleton];omega,(hE a ha).1⟩
 ·rw[hi,List.mem_singleton]at ha
  exact λhp=>by have:=hP a hp;omega
theorem OutB.toSl (o:OutB h lo B v css l):Sl h v l:=⟨css,o.1.sl,o.2.1,o.2.2.1⟩
end
/-- A map holds just these IDs. -/
def IdMap (al:List ((Int×Int)×CV)) (l:List (Int×Int)):Prop:=∀id,(MP.look id al).getD (.int .i64 0)= .int .i64 (if id∈l then 1 else 0)
theorem IdMap.nil:IdMap [] []:=λid=>rfl
theorem IdMap.more {al:List ((Int×Int)×CV)} {l:List (Int×Int)} (m:IdMap al l) (x:Int×Int):IdMap (MP.upd x (.int .i64 1) al) (l++[x]):=λid=>by
 rw[MP.look_upd]
 by_cases c:id=x
 ·rw[if_pos c,if_pos (by rw[c];simp)];rfl
 ·rw[if_neg c,m id]
  by_cases d:id∈l
  ·rw[if_pos d,if_pos (List.mem_append_left _ d)]
  ·rw[if_neg d,if_neg (λh=>(List.mem_append.1 h).elim d (λh=>c (by simpa using h)))]
end Go.CM.Tt

noncomputable section
namespace Go.CM.Tt
open Go.CM
theorem RouteW.deps_get (r:RouteW) (a:Int) {k j:Nat} (h:j<=k):(r.deps a k).getD j 0=a+r.pre j:=by
 rw[List.getD_eq_getElem?_getD,RouteW.deps_at r a h];rfl
theorem runs_dep {w:WorldD} (c:w.check.err=0) {x:RunD} (h:x∈w.runs w.trips.length) {p:Nat} (hp:p<x.dep.length):0<=x.dep.getD p 0/\x.dep.getD p 0<=1125899906842624:=by
 obtain⟨j,no,hj,hn,rfl⟩:=runs_mem _ h
 have f:=WorldD.fine c
 obtain⟨t,r,jr,T⟩:=f.at hj
 have hh:w.hasAt j (no:Int):=by
  rw[T.has,WorldD.has_iff T.v.1 (by omega)]
  unfold WorldD.cntAt at hn
  rwa[T.at_,T.of_]at hn
 rw[T.has]at hh
 obtain⟨h0,h1,h2⟩:=hh
 have hz:=f.hz.2
 have f0:=T.f.1
 have v0:0<=(no:Int)*t.evr:=Int.mul_nonneg h0 T.v.1
 rw[T.run]at hp ⊢
 have hp:p<(r.deps (t.frm+(no:Int)*t.evr) r.rides.length).length:=hp
 rw[RouteW.deps_len]at hp
 show 0<=(r.deps (t.frm+(no:Int)*t.evr) r.rides.length).getD p 0/\(r.deps (t.frm+(no:Int)*t.evr) r.rides.length).getD p 0<=_
 rw[RouteW.deps_get r _ (by omega)]
 obtain⟨t1,t2,t3⟩:=T.tame
 have k1:=t3 p
 have k2:0<=r.long:=(t3 _).1
 omega
theorem lates_dep:∀{D:List LateD} {r:RunD},(r.lates D).2=true->(D=[]->∀p,p<r.dep.length->0<=r.dep.getD p 0/\r.dep.getD p 0<=1125899906842624)->∀p,p<(r.lates D).1.dep.length->0<=(r.lates D).1.dep.getD p 0/\(r.lates D).1.dep.getD p 0<=1125899906842624
 |[],_,_,h=>h rfl
 |d::t,r,h,_=>by
  by_cases c:(r.later d.pos d.by_).2=0
  ·have e:r.lates (d::t)=(r.later d.pos d.by_).1.lates t:=by
     show(if(r.later d.pos d.by_).2=0 then _ else _)=_
     rw[if_pos c]
   rw[e]at h ⊢
   refine lates_dep h λ_ p hp=> ?_
   have w:=later_what c
   have far:¬1099511627776-r.arr.getD (r.arr.length-1) 0<d.by_:=λhf=>by
    by_cases c1:¬r.timesOk\/d.pos<0\/(r.arr.length:Int)-1<=d.pos\/d.by_<0
    ·rw[RunD.later_bad c1]at c;cases c
    ·rw[RunD.later_far c1 hf]at c;cases c
   rw[w.2.2.2.2]at hp ⊢
   have hp:p<(laterD d.pos.toNat d.by_ r.dep).length:=hp
   have hp2:p<r.dep.length:=by simpa[laterD]using hp
   show 0<=(laterD d.pos.toNat d.by_ r.dep).getD p 0/\(laterD d.pos.toNat d.by_ r.dep).getD p 0<=_
   rw[laterD_getD hp2]
   have l:=w.1.lim (k:=p) (by have:=w.1.2.1;omega)
   have:=w.2.2.2.1
   split<;>omega
  ·have e:r.lates (d::t)=((r.later d.pos d.by_).1,false):=by
     show(if(r.later d.pos d.by_).2=0 then _ else _)=_
     rw[if_neg c]
   rw[e]at h;cases h
/-- The runs that go, as they are at first. -/
def StateD.goes0 (s:StateD):List RunD:=(s.w.runs s.w.trips.length).filter λr=>decide (r.id∉s.gone)
theorem StateD.goes_at {s:StateD} {i:Nat} (h:i<s.goes.length):∃h0:i<s.goes0.length,s.goes[i]=s.asIs s.goes0[i]/\s.goes0[i]∈s.w.runs s.w.trips.length:=by
 have h0:i<s.goes0.length:=by simpa[StateD.goes,StateD.goes0]using h
 refine⟨h0,?_,?_⟩
 ·have:s.goes[i]=(s.goes0.map s.asIs)[i]'(by rw[List.length_map];exact h0):=rfl
  rw[this,List.getElem_map]
 ·exact(List.mem_filter.1 (List.getElem_mem h0)).1
theorem StateD.asIs_dep {s:StateD} (g:s.LG) (c:s.w.check.err=0) {r:RunD} (h:r∈s.w.runs s.w.trips.length) {p:Nat} (hp:p<(s.asIs r).dep.length):0<=(s.asIs r).dep.getD p 0/\(s.asIs r).dep.getD p 0<=1125899906842624:=
 lates_dep (g.ok (runs_one c h)) (λ_ p hp=>runs_dep c h hp) p hp
end Go.CM.Tt
