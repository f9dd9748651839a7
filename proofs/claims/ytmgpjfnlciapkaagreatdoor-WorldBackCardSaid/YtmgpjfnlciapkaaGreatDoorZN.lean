/- Where a name is found first, in plain words. No condition, no program. -/
import Derived.Test.YtmgpjfnlciapkaaGreatDoorYV
import Derived.Test.YtmgpjfnlciapkaaGreatDoorXG
import Derived.Test.YtmgpjfnlciapkaaGreatDoorYS
import Derived.Test.YtmgpjfnlciapkaaGreatDoorYB
import Derived.Test.YtmgpjfnlciapkaaGreatDoorXQ4
set_option linter.unusedVariables false
set_option linter.unusedSimpArgs false
noncomputable section
namespace Go.CM.Tt
def findL (s:Str):List (List Str)->Int->Int×Int
 |[],_=>(0,0)
 |l::r,k=>if 0<=place l s then(k,place l s)else findL s r (k+1)
def NamesD.find (n:NamesD) (s:Str):Int×Int:=findL s n.lists 0
theorem findL_some {s:Str}:∀{L:List (List Str)} {i:Int} {k:Nat} {l:List Str},(∀n m,n<k->L[n]? =some m->¬0<=place m s)->L[k]? =some l->0<=place l s->findL s L i=(i+k,place l s)
 |[],_,_,_,_,h,_=>by simp at h
 |a::L,i,0,l,_,h,hp=>by
  have:a=l:=by simpa using h
  subst this
  unfold findL
  rw[if_pos hp];simp
 |a::L,i,k+1,l,hn,h,hp=>by
  have h0:=hn 0 a (by omega) rfl
  have ih:=findL_some (L:=L) (i:=i+1) (k:=k) (l:=l) (λn m hm hl=>hn (n+1) m (by omega) (by simpa using hl)) (by simpa using h) hp
  unfold findL
  rw[if_neg h0,ih]
  congr 1
  omega
theorem findL_none {s:Str}:∀{L:List (List Str)} {i:Int},(∀(n:Nat) m,L[n]? =some m->¬0<=place m s)->findL s L i=(0,0)
 |[],_,_=>rfl
 |a::L,i,hn=>by
  have ih:=findL_none (L:=L) (i:=i+1) λn m hl=>hn (n+1) m (by simpa using hl)
  unfold findL
  rw[if_neg (hn 0 a rfl),ih]
end Go.CM.Tt

namespace Go.Proofs.YtmgpjfnlciapkaaGreatDoor
open Go Go.CM Go.CM.Tt
noncomputable section
set_option maxHeartbeats 16000000
theorem find_w {h:Heap} {tm:Tm} {Q:R->Prop} {cs:List CV} {w:WorldD} (fr:Fresh h) (r:Rp.R h cs w) (s:Str) (sh:∀l∈w.names.lists,l.length<=1099511627776) (q:∀h',Ext h h'->Q (.val (.tup [.int .i64 (w.names.find s).1,.int .i64 (w.names.find s).2]) h')):W E1 (.call (.fn 9 [] []) [.agg cs,.str s]) tm h Q:=by
 obtain⟨v1,v2,v3,v4,v5,v6,v7,v8,v9,v10,v11,rfl,s1,s2,s3,s4,s5,s6,_⟩:=r
 refine W.fn (s:=fnOf Tryz.f9) rfl rfl rfl rfl ?_
 repeat (refine W.seq ?_)
 refine W.region ?_
 refine W.box rfl rfl rfl λH1 X1 n1 g1 L1=> ?_
 refine W.g ?_
 refine W.call rfl rfl rfl (kinds_w (X1.fr fr) λh2 z X2 z1 z2 Lz=> ?_)
 obtain⟨lists,hlists⟩:∃lists,lists=w.names.lists:=⟨_,rfl⟩
 obtain⟨ps,hps⟩:∃ps:List CV,ps=[.ptr (some (z,0)),.ptr (some (h.next,0+1+0)),.ptr (some (h.next,0+1+1)),.ptr (some (h.next,0+1+2)),.ptr (some (h.next,0+1+3)),.ptr (some (h.next,0+1+4)),.ptr (some (h.next,0+1+5))]:=⟨_,rfl⟩
 have Y2:=X1.trans X2
 have L2:=L1.ext X2
 have fam:∀k,k<7->∃p o v,nth ps k=some (.ptr (some (p,o)))/\∀J,Ext h2 J->LocE J p o [v]/\Sl J v (lists.getD k []):=by
  intro k hk
  rw[hps,hlists]
  rcases k with _|_|_|_|_|_|_|k
  ·exact⟨z,0,_,rfl,λJ XJ=>⟨Lz.ext XJ,Sl.nil⟩⟩
  ·exact⟨h.next,0+1+0,v1,rfl,λJ XJ=>⟨LocE.sub (k:=1) (m:=1) (L2.ext XJ) rfl,s1.ext (Y2.trans XJ)⟩⟩
  ·exact⟨h.next,0+1+1,v2,rfl,λJ XJ=>⟨LocE.sub (k:=2) (m:=1) (L2.ext XJ) rfl,s2.ext (Y2.trans XJ)⟩⟩
  ·exact⟨h.next,0+1+2,v3,rfl,λJ XJ=>⟨LocE.sub (k:=3) (m:=1) (L2.ext XJ) rfl,s3.ext (Y2.trans XJ)⟩⟩
  ·exact⟨h.next,0+1+3,v4,rfl,λJ XJ=>⟨LocE.sub (k:=4) (m:=1) (L2.ext XJ) rfl,s4.ext (Y2.trans XJ)⟩⟩
  ·exact⟨h.next,0+1+4,v5,rfl,λJ XJ=>⟨LocE.sub (k:=5) (m:=1) (L2.ext XJ) rfl,s5.ext (Y2.trans XJ)⟩⟩
  ·exact⟨h.next,0+1+5,v6,rfl,λJ XJ=>⟨LocE.sub (k:=6) (m:=1) (L2.ext XJ) rfl,s6.ext (Y2.trans XJ)⟩⟩
  ·omega
 refine W.k5 1 2 4 5 10 λT=> ?_
 refine W.g ?_
 refine W.k5 1 4 5 10 11 λT=> ?_
 refine W.loop (σ:=Nat) (λk tm h'=>tm.look 1= .str s/\tm.look 10= .agg ps/\tm.look 11= .int .i64 (k:Int)/\k<=7/\Ext h2 h'/\∀n m,n<k->lists[n]? =some m->¬0<=place m s) (λk=>7-k) ?_ (s:=0)
  ⟨rfl,by rw[hps];rfl,rfl,Nat.zero_le _,Ext.refl _,λn m hn=>by omega⟩
 rintro k tm h' ⟨w1,w10,w11,hk,X,hn⟩
 obtain⟨T,rfl⟩:=Tm.t3 w1 w10 w11
 clear w1 w10 w11
 have hl7:lists.length=7:=by rw[hlists];rfl
 by_cases c1:k<7
 ·obtain⟨p,o,v,hpk,hv⟩:=fam k c1
  obtain⟨Lv,sv⟩:=hv h' X
  obtain⟨l,hl⟩:∃l,l=lists.getD k []:=⟨_,rfl⟩
  rw[<-hl]at sv
  have hlk:lists[k]? =some l:=by rw[hl,hlists];rcases k with _|_|_|_|_|_|_|k<;>first|rfl|omega
  refine W.g ?_
  refine W.ixv rfl rfl rfl rfl rfl rfl rfl rfl rfl (place_of (j:=k) rfl c1) hpk ?_
  refine W.g ?_
  refine W.call rfl rfl rfl (place_w s sv (sh l (by rw[<-hlists];exact List.mem_of_getElem? hlk)) ?_)
  by_cases c2:0<=place l s
  ·have e:w.names.find s=((k:Int),place l s):=by
     have:=findL_some (i:=0) hn hlk c2
     rw[Int.zero_add]at this
     rw[<-this,hlists];rfl
   rw[e]at q
   refine W.g ?_
   exact q _ (Y2.trans X)
  ·refine W.g ?_
   exact⟨k+1,by show 7-(k+1)<7-k;omega,rfl,rfl,rfl,c1,X,λn m hm hl'=>by
    by_cases e:n=k
    ·rw[e,hlk]at hl';cases hl';exact c2
    ·exact hn n m (by omega) hl'⟩
 ·have e:w.names.find s=(0,0):=by
    unfold NamesD.find
    rw[<-hlists]
    exact findL_none λn m hm=>hn n m (by
     have:=(List.getElem?_eq_some_iff.1 hm).1
     omega) hm
  rw[e]at q
  refine W.g ?_
  exact q _ (Y2.trans X)
end
end Go.Proofs.YtmgpjfnlciapkaaGreatDoor

namespace Go.Proofs.YtmgpjfnlciapkaaGreatDoor
open Go Go.CM Go.CM.Tt
noncomputable section
set_option maxHeartbeats 8000000
theorem lightRoute_w {h:Heap} {tm:Tm} {Q:R->Prop} {cs:List CV} {r:RouteS} (rr:Rp.R h cs r) (q:∀h' (b:Bool),Ext h h'->(b=true↔r.light)->Q (.val (.bool b) h')):W E1 (.call (.fn 23 [] []) [.agg cs,.int .i64 60]) tm h Q:=by
 obtain⟨v1,v2,v3,rfl,s1,s2,s3⟩:=rr
 refine W.fn (s:=fnOf Tryz.f23) rfl rfl rfl rfl ?_
 by_cases c1:r.stops.length<=60
 ·by_cases c2:r.rides.length<=60
  ·by_cases c3:r.stays.length<=60
   ·repeat (first|refine W.g ?_|refine W.m λh_ X_ n_ g_ L_=> ?_)
    exact q _ true X_ (Iff.intro (λ_=>⟨c1,c2,c3⟩) (λ_=>rfl))
   ·repeat (first|refine W.g ?_|refine W.m λh_ X_ n_ g_ L_=> ?_)
    exact q _ false X_ (Iff.intro (λh=>by cases h) (λh=>absurd h.2.2 c3))
  ·repeat (first|refine W.g ?_|refine W.m λh_ X_ n_ g_ L_=> ?_)
   exact q _ false X_ (Iff.intro (λh=>by cases h) (λh=>absurd h.2.1 c2))
 ·repeat (first|refine W.g ?_|refine W.m λh_ X_ n_ g_ L_=> ?_)
  exact q _ false X_ (Iff.intro (λh=>by cases h) (λh=>absurd h.1 c1))
theorem lightSheet_w {h:Heap} {tm:Tm} {Q:R->Prop} {cs:List CV} {x:SheetD} (r:Rp.R h cs x) (q:∀h' (b:Bool),Ext h h'->(b=true↔x.light)->Q (.val (.bool b) h')):W E1 (.call (.fn 7 [] []) [.agg cs,.int .i64 60]) tm h Q:=by
 obtain⟨v1,v2,v3,v4,v5,v6,rfl,s1,s2,s3,s4,s5,s6⟩:=r
 refine W.fn (s:=fnOf Tryz.f7) rfl rfl rfl rfl ?_
 by_cases c1:60<x.stops.length
 ·repeat (first|refine W.g ?_|refine W.m λh_ X_ n_ g_ L_=> ?_)
  exact q _ false X_ (Iff.intro (λh=>by cases h) (λh=>by have:=h.1;omega))
 by_cases c2:60<x.paths.length
 ·repeat (first|refine W.g ?_|refine W.m λh_ X_ n_ g_ L_=> ?_)
  exact q _ false X_ (Iff.intro (λh=>by cases h) (λh=>by have:=h.2.1;omega))
 by_cases c3:60<x.doors.length
 ·repeat (first|refine W.g ?_|refine W.m λh_ X_ n_ g_ L_=> ?_)
  exact q _ false X_ (Iff.intro (λh=>by cases h) (λh=>by have:=h.2.2.1;omega))
 by_cases c4:60<x.routes.length
 ·repeat (first|refine W.g ?_|refine W.m λh_ X_ n_ g_ L_=> ?_)
  exact q _ false X_ (Iff.intro (λh=>by cases h) (λh=>by have:=h.2.2.2.1;omega))
 by_cases c5:60<x.trips.length
 ·repeat (first|refine W.g ?_|refine W.m λh_ X_ n_ g_ L_=> ?_)
  exact q _ false X_ (Iff.intro (λh=>by cases h) (λh=>by have:=h.2.2.2.2.1;omega))
 by_cases c6:60<x.hazards.length
 ·repeat (first|refine W.g ?_|refine W.m λh_ X_ n_ g_ L_=> ?_)
  exact q _ false X_ (Iff.intro (λh=>by cases h) (λh=>by have:=h.2.2.2.2.2.1;omega))
 repeat (first|refine W.g ?_|refine W.m λh_ X_ n_ g_ L_=> ?_)
 obtain⟨H,hH⟩:∃H,H=h_:=⟨_,rfl⟩
 rw[<-hH]at X_ L_ ⊢
 have s4:=s4.ext X_
 refine W.k2 2 5 λT=> ?_
 refine W.loop (σ:=Nat) (λk tm h'=>Ext H h'/\tm.look 2= .ptr (some (h.next,0))/\tm.look 5= .int .i64 (k:Int)/\k<=x.routes.length/\∀(j:Nat) r,j<k->x.routes[j]? =some r->r.light) (λk=>x.routes.length-k) ?_ (s:=0) ⟨Ext.refl _,rfl,rfl,Nat.zero_le _,λj r hj=>by omega⟩
 rintro k tm h' ⟨X,w2,w5,hk,hl⟩
 obtain⟨T,rfl⟩:=Tm.t2 w2 w5
 clear w2 w5
 by_cases d1:k<x.routes.length
 ·refine W.g ?_
  refine W.ixR s4 d1 rfl rfl rfl rfl rfl rfl rfl λi_ o_ e L_ r_=> ?_
  have hlen:=Rp.len r_
  refine W.g ?_
  refine W.call rfl rfl rfl (lightRoute_w (Rp.ext X r_) λh2 b X2 hb=> ?_)
  have hat:x.routes[k]? =some x.routes[k]:=List.getElem?_eq_getElem d1
  cases b
  ·refine W.g ?_
   exact q _ false Ext.x (Iff.intro (λh=>by cases h) (λh=>absurd (hb.2 (h.2.2.2.2.2.2 _ (List.getElem_mem d1))) (λh=>by cases h)))
  ·refine W.g ?_
   exact⟨k+1,lessN d1,Ext.x,rfl,rfl,d1,λj r hj hr=>by
    by_cases e:j=k
    ·rw[e,hat]at hr;cases hr;exact hb.1 rfl
    ·exact hl j r (by omega) hr⟩
 ·refine W.g ?_
  have ek:k=x.routes.length:=by omega
  exact q _ true Ext.x (Iff.intro (λ_=>⟨by omega,by omega,by omega,by omega,by omega,by omega,λr hr=>by
   obtain⟨j,hj⟩:=List.getElem?_of_mem hr
   exact hl j r (by rw[ek];exact(List.getElem?_eq_some_iff.1 hj).1) hj⟩) (λ_=>rfl))
end
end Go.Proofs.YtmgpjfnlciapkaaGreatDoor

namespace Go.CM.Tt
theorem place_nodup {l:List Str} (nd:l.Nodup) {i:Nat} {s:Str} (hs:l[i]? =some s):place l s=i:=by
 refine place_some hs λj hj a ha e=> ?_
 obtain⟨h1,h2⟩:=List.getElem?_eq_some_iff.1 hs
 obtain⟨h3,h4⟩:=List.getElem?_eq_some_iff.1 ha
 exact(List.pairwise_iff_getElem.1 nd j i h3 h1 hj) (by rw[h4,h2,e])
theorem find_at {n:NamesD} (nd:n.lists.flatten.Nodup) {k i:Nat} {l:List Str} {s:Str} (hl:n.lists[k]? =some l) (hs:l[i]? =some s):n.find s=((k:Int),(i:Int)):=by
 obtain⟨h1,h2⟩:=List.pairwise_flatten.1 nd
 obtain⟨hk,hlk⟩:=List.getElem?_eq_some_iff.1 hl
 have hp:place l s=i:=place_nodup (h1 l (List.mem_of_getElem? hl)) hs
 have:=findL_some (s:=s) (L:=n.lists) (i:=0) (k:=k) (l:=l) (λm l' hm hl' hp'=>by
  obtain⟨hm2,hlm⟩:=List.getElem?_eq_some_iff.1 hl'
  have:=List.pairwise_iff_getElem.1 h2 m k hm2 hk hm
  rw[hlm,hlk]at this
  exact this s (place_mem.1 hp') s (List.mem_of_getElem? hs) rfl) hl (by rw[hp];omega)
 unfold NamesD.find
 rw[this,hp,Int.zero_add]
theorem SheetD.Fit.findStop {x:SheetD} (f:x.Fit) {i:Nat} (h:i<x.stops.length):x.num.names.find x.stops[i]=(1,(i:Int)):=
 find_at (n:=x.num.names) (k:=1) f.nd rfl (List.getElem?_eq_getElem h)
theorem SheetD.Fit.findPath {x:SheetD} (f:x.Fit) {i:Nat} (h:i<x.paths.length):x.num.names.find x.paths[i].name=(2,(i:Int)):=
 find_at (n:=x.num.names) (k:=2) f.nd rfl (by
  show(x.paths.map (·.name))[i]? =_
  rw[List.getElem?_map,List.getElem?_eq_getElem h];rfl)
theorem SheetD.Fit.findTrip {x:SheetD} (f:x.Fit) {i:Nat} (h:i<x.trips.length):x.num.names.find x.trips[i].name=(5,(i:Int)):=
 find_at (n:=x.num.names) (k:=5) f.nd rfl (by
  show(x.trips.map (·.name))[i]? =_
  rw[List.getElem?_map,List.getElem?_eq_getElem h];rfl)
theorem SheetD.Fit.pathAt {x:SheetD} (f:x.Fit) {i:Nat} (h:i<x.paths.length):∃j:Nat,∃hj:j<x.stops.length,place x.stops x.paths[i].a=j/\x.stops[j]=x.paths[i].a:=by
 have h1:=(f.pathIn (List.getElem_mem h)).1
 obtain⟨h2,h3⟩:=List.getElem?_eq_some_iff.1 (place_at h1)
 exact⟨_,h2,by omega,h3⟩
theorem SheetD.Fit.tripAt {x:SheetD} (f:x.Fit) {i:Nat} (h:i<x.trips.length):∃j:Nat,∃hj:j<x.routes.length,place x.names.routes x.trips[i].route=j/\x.routes[j].name=x.trips[i].route:=by
 have h1:=f.tripIn (List.getElem_mem h)
 obtain⟨h2,h3⟩:=List.getElem?_eq_some_iff.1 (place_at h1)
 have h4:(place x.names.routes x.trips[i].route).toNat<x.routes.length:=by
  have:x.names.routes.length=x.routes.length:=by simp[SheetD.names]
  omega
 refine⟨_,h4,by omega,?_⟩
 have h5:x.names.routes[(place x.names.routes x.trips[i].route).toNat]=x.routes[(place x.names.routes x.trips[i].route).toNat].name:=by simp[SheetD.names]
 exact h5.symm.trans h3
theorem SheetD.make_none {x:SheetD} (h:x.make.2.err≠0):x.make.1=WorldD.none:=by
 unfold SheetD.make at h ⊢
 by_cases c:x.err=0
 ·by_cases d:x.num.wrong.err=0
  ·rw[if_pos c,if_pos d]at h;exact absurd rfl h
  ·rw[if_pos c,if_neg d]
 ·rw[if_neg c]
end Go.CM.Tt

namespace Go.CM.Tt
theorem SheetD.Ok.numSmall {x:SheetD} (o:x.Ok):x.num.small:=by
 obtain⟨f1,f2,f3,f4,f5,f6⟩:=o.1
 refine⟨?_,?_,?_,?_,?_,?_,?_,?_,?_,?_,?_,λr hr=> ?_⟩
 iterate 11 (simp only[SheetD.num,SheetD.names,List.length_map];omega)
 obtain⟨a,ha,rfl⟩:=List.mem_map.1 hr
 obtain⟨h1,h2,h3,h4⟩:=o.2.2.2 a ha
 simp only[RouteS.num,List.length_map]
 omega
end Go.CM.Tt
