/- Small worlds, states, by the program. No condition. -/
import Derived.Test.YtnjkaahbhebaeaaGreatDoorXU
import Derived.Test.YtnjkaahbhebaeaaGreatDoorMQ
set_option linter.unusedVariables false
set_option linter.unusedSimpArgs false
set_option maxRecDepth 100000
namespace Go.Proofs.YtnjkaahbhebaeaaGreatDoor
open Go Go.CM Go.CM.Tt
noncomputable section
set_option maxHeartbeats 40000000
set_option maxRecDepth 100000
theorem _root_.Go.CM.W.quoA {E:Env} {tm:Tm} {h:Heap} {Q:R->Prop} {all rest:List Oper} {o:Oper} {t ty:TypeId} {x y:Operand} {a b:Int} (hb:b≠0) (hgd:guardOn all tm o=some true) (hop:o.op= .binOp .quo t x y ty)
  (hx:binop E .quo t (isConst x||isConst y) (cvOf E.globs tm x) (cvOf E.globs tm y)=intBin .quo .i64 a b) (w:∀v:Int,W E (.ops all rest) (putTmp tm o.dst (.int .i64 v)) h Q):W E (.ops all (o::rest)) tm h Q:=by
 refine W.op hgd (v:= .int .i64 (IntKind.i64.wrap (a.tdiv b))) (h1:=h) ?_ (w _)
 unfold opAny
 rw[hop]
 show withH h (binop E .quo t (isConst x||isConst y) (cvOf E.globs tm x) (cvOf E.globs tm y))=_
 rw[hx]
 unfold intBin
 simp only[intEq_eq]
 have hb0:(b==0)=false:=by simp;exact hb
 rw[hb0];rfl
def _root_.Go.CM.Tt.WorldD.fewW (w:WorldD):Prop:=w.names.stops.length<=12/\w.names.paths.length<=20/\w.names.doors.length<=12/\w.names.routes.length<=8/\w.names.trips.length<=10/\w.names.hazards.length<=12/\w.paths.length<=20/\w.doors.length<=12/\w.routes.length<=8/\w.trips.length<=10/\w.hazards.length<=12/\∀r∈w.routes,r.stops.length<=10/\r.rides.length<=10/\r.stays.length<=10
theorem few_small {w:WorldD} (l:w.fewW):w.small:=by
 obtain⟨l1,l2,l3,l4,l5,l6,l7,l8,l9,l10,l11,l12⟩:=l
 refine⟨by omega,by omega,by omega,by omega,by omega,by omega,by omega,by omega,by omega,by omega,by omega,λr hr=> ?_⟩
 have:=l12 r hr
 omega
theorem few_told {w:WorldD} (l:w.fewW):w.told.slim:=by
 obtain⟨l1,l2,l3,l4,l5,l6,l7,l8,l9,l10,l11,l12⟩:=l
 intro r hr
 obtain⟨i,hi,rfl⟩:=List.mem_mapIdx.1 hr
 obtain⟨h1,h2,h3⟩:=l12 _ (List.getElem_mem hi)
 exact⟨by simp only[RouteW.told,List.length_map];omega,by show w.routes[i].rides.length<=1000;omega,by show w.routes[i].stays.length<=1000;omega⟩
theorem fewWorld_w {h:Heap} {tm:Tm} {Q:R->Prop} {cs:List CV} {w:WorldD} (r:Rp.R h cs w) (q:∀h' (b:Bool),Ext h h'->(b=true->w.fewW)->Q (.val (.bool b) h')):W E1 (.call (.fn 49 [] []) [.agg cs]) tm h Q:=by
 obtain⟨a1,a2,a3,a4,a5,a6,a7,a8,a9,a10,a11,rfl,p1,p2,p3,p4,p5,p6,p7,p8,p9,p10,p11⟩:=r
 refine W.fn (s:=fnOf Tryz.f49) rfl rfl rfl rfl ?_
 repeat (first|refine W.g ?_|refine W.m λh_ X_ n_ g_ L_=> ?_)
 by_cases c1:12<w.names.stops.length
 ·repeat refine W.g ?_
  exact q _ false Ext.x (λh=>by cases h)
 rename_i H1 X1 n1 g1 L1
 have L1:=L1.ext X_
 have XH:Ext h h_:=X1.trans X_
 obtain⟨H,hH⟩:∃H,H=h_:=⟨_,rfl⟩
 have L3:=L_
 rw[<-hH]at XH L1 L3 ⊢
 clear n1 g1 n_ g_ L_ X_ hH
 have p9:=p9.ext XH
 have p10:=p10.ext XH
 refine W.k3 1 3 13 λT=> ?_
 repeat refine W.g ?_
 by_cases c2:20<w.names.paths.length
 ·repeat refine W.g ?_
  exact q _ false Ext.x (λh=>by cases h)
 refine W.k3 1 3 19 λT=> ?_
 repeat refine W.g ?_
 by_cases c3:12<w.names.doors.length
 ·repeat refine W.g ?_
  exact q _ false Ext.x (λh=>by cases h)
 refine W.k3 1 3 25 λT=> ?_
 repeat refine W.g ?_
 by_cases c4:8<w.names.routes.length
 ·repeat refine W.g ?_
  exact q _ false Ext.x (λh=>by cases h)
 refine W.k3 1 3 31 λT=> ?_
 repeat refine W.g ?_
 by_cases c5:10<w.names.trips.length
 ·repeat refine W.g ?_
  exact q _ false Ext.x (λh=>by cases h)
 refine W.k3 1 3 37 λT=> ?_
 repeat refine W.g ?_
 by_cases c6:12<w.names.hazards.length
 ·repeat refine W.g ?_
  exact q _ false Ext.x (λh=>by cases h)
 refine W.k3 1 3 43 λT=> ?_
 repeat refine W.g ?_
 by_cases c7:20<w.paths.length
 ·repeat refine W.g ?_
  exact q _ false Ext.x (λh=>by cases h)
 refine W.k2 1 49 λT=> ?_
 repeat refine W.g ?_
 by_cases c8:12<w.doors.length
 ·repeat refine W.g ?_
  exact q _ false Ext.x (λh=>by cases h)
 refine W.k2 1 55 λT=> ?_
 repeat refine W.g ?_
 by_cases c9:8<w.routes.length
 ·repeat refine W.g ?_
  exact q _ false Ext.x (λh=>by cases h)
 refine W.k2 1 61 λT=> ?_
 repeat refine W.g ?_
 by_cases c10:10<w.trips.length
 ·repeat refine W.g ?_
  exact q _ false Ext.x (λh=>by cases h)
 refine W.k2 1 67 λT=> ?_
 repeat refine W.g ?_
 by_cases c11:12<w.hazards.length
 ·repeat refine W.g ?_
  exact q _ false Ext.x (λh=>by cases h)
 repeat refine W.g ?_
 refine W.k2 1 4 λT=> ?_
 refine W.loop (σ:=Nat) (λk tm h'=>Ext H h'/\tm.look 1= .ptr (some (h.next,0))/\tm.look 4= .int .i64 (k:Int)/\k<=w.routes.length/\∀(j:Nat) r,j<k->w.routes[j]? =some r->r.stops.length<=10/\r.rides.length<=10/\r.stays.length<=10) (λk=>w.routes.length-k) ?_ (s:=0) ⟨Ext.refl _,rfl,rfl,Nat.zero_le _,λj r hj=>by omega⟩
 rintro k tm h' ⟨X,w1,w4,hk,hl⟩
 obtain⟨T,rfl⟩:=Tm.t2 w1 w4
 clear w1 w4
 by_cases d1:k<w.routes.length
 ·have hat:w.routes[k]? =some w.routes[k]:=List.getElem?_eq_getElem d1
  repeat refine W.g ?_
  refine W.ixR p9 d1 rfl rfl rfl rfl rfl rfl rfl λi_ o_ e L_ r_=> ?_
  have hlen:=Rp.len r_
  obtain⟨u1,u2,u3,rfl,v1,v2,v3⟩:=r_
  by_cases e1:10<w.routes[k].stops.length
  ·repeat refine W.g ?_
   exact q _ false Ext.x (λh=>by cases h)
  repeat refine W.g ?_
  refine W.ixR p9 d1 rfl rfl rfl rfl rfl rfl rfl λi2_ o2_ e' L2_ r2_=> ?_
  have hlen2:=Rp.len r2_
  obtain⟨u1',u2',u3',rfl,v1',v2',v3'⟩:=r2_
  by_cases e2:10<w.routes[k].rides.length
  ·repeat refine W.g ?_
   exact q _ false Ext.x (λh=>by cases h)
  repeat refine W.g ?_
  refine W.ixR p9 d1 rfl rfl rfl rfl rfl rfl rfl λi3_ o3_ e'' L3_ r3_=> ?_
  have hlen3:=Rp.len r3_
  obtain⟨u1'',u2'',u3'',rfl,v1'',v2'',v3''⟩:=r3_
  by_cases e3:10<w.routes[k].stays.length
  ·repeat refine W.g ?_
   exact q _ false Ext.x (λh=>by cases h)
  repeat refine W.g ?_
  exact⟨k+1,lessN d1,Ext.x,rfl,rfl,d1,λj r hj hr=>by
   by_cases e:j=k
   ·rw[e,hat]at hr;cases hr;exact⟨by omega,by omega,by omega⟩
   ·exact hl j r (by omega) hr⟩
 have ek:k=w.routes.length:=by omega
 have ok:w.fewW:=⟨by omega,by omega,by omega,by omega,by omega,by omega,by omega,by omega,by omega,by omega,by omega,λr hr=>by
  obtain⟨j,hj⟩:=List.getElem?_of_mem hr
  exact hl j r (by rw[ek];exact(List.getElem?_eq_some_iff.1 hj).1) hj⟩
 repeat refine W.g ?_
 refine W.k2 1 5 λT=> ?_
 clear hl
 refine W.loop (σ:=Nat) (λk tm h'=>Ext H h'/\tm.look 1= .ptr (some (h.next,0))/\tm.look 5= .int .i64 (k:Int)/\k<=w.trips.length) (λk=>w.trips.length-k) ?_ (s:=0) ⟨Ext.x,rfl,rfl,Nat.zero_le _⟩
 rintro i tm h2 ⟨X2,w1,w5,hi⟩
 obtain⟨T,rfl⟩:=Tm.t2 w1 w5
 clear w1 w5
 by_cases d2:i<w.trips.length
 rotate_left
 ·repeat refine W.g ?_
  exact q _ true Ext.x (λ_=>ok)
 obtain⟨t,ht⟩:∃t,t=w.trips[i]:=⟨_,rfl⟩
 have no:∀{M:Heap},Ext H M->Q (.val (.bool false) M):=λX=>q _ false (XH.trans X) (λh=>by cases h)
 repeat refine W.g ?_
 refine W.ixF p10 d2 rfl rfl rfl rfl rfl rfl rfl λi1 o1 M1=> ?_
 replace M1:=show LocE H i1 o1 [.int .i64 t.route,.int .i64 t.frm,.int .i64 t.evr,.int .i64 t.untl]from by rw[ht];exact M1
 repeat (first|refine W.g ?_|refine W.m λh_ X_ n_ g_ L_=> ?_)
 have L6:=show LocE h_ h2.next 0 [.int .i64 t.route,.int .i64 t.frm,.int .i64 t.evr,.int .i64 t.untl]from L_
 have XA:=X2.trans X_
 clear L_ g_
 refine W.k4 1 5 6 123 λT=> ?_
 by_cases e1:0<t.evr
 rotate_left
 ·repeat refine W.g ?_
  exact⟨i+1,lessN d2,XA,rfl,rfl,d2⟩
 by_cases e2:0<=t.frm
 rotate_left
 ·repeat refine W.g ?_
  exact⟨i+1,lessN d2,XA,rfl,rfl,d2⟩
 by_cases e3:t.frm<t.untl
 rotate_left
 ·repeat refine W.g ?_
  exact⟨i+1,lessN d2,XA,rfl,rfl,d2⟩
 repeat refine W.g ?_
 refine W.quoA (b:=t.evr) (by omega) rfl rfl rfl λv=> ?_
 by_cases e4:30<v
 ·repeat refine W.g ?_
  exact no XA
 ·repeat refine W.g ?_
  exact⟨i+1,lessN d2,XA,rfl,rfl,d2⟩
theorem lightState_w {h:Heap} {tm:Tm} {Q:R->Prop} {cs:List CV} {s:StateD} (ss:Rp.R h cs s) (q:∀h' (b:Bool),Ext h h'->(b=true->s.w.fewW/\s.late.length<=60/\s.gone.length<=60)->Q (.val (.bool b) h')):W E1 (.call (.fn 35 [] []) [.agg cs]) tm h Q:=by
 obtain⟨a1,a2,a3,a4,a5,a6,a7,a8,a9,a10,a11,vl,vg,rfl,rw0,t1,t2⟩:=ss
 refine W.fn (s:=fnOf Tryz.f35) rfl rfl rfl rfl ?_
 repeat (refine W.seq ?_)
 refine W.region ?_
 refine W.box rfl rfl rfl λH1 X1 n1 g1 L1=> ?_
 repeat refine W.g ?_
 refine W.call rfl rfl rfl (fewWorld_w (Rp.ext X1 rw0) λh2 b X2 hb=> ?_)
 have L1:=L1.ext X2
 have XX:=X1.trans X2
 cases b
 ·repeat refine W.g ?_
  exact q _ _ XX (λh=>by cases h)
 by_cases c1:s.late.length<=60
 rotate_left
 ·repeat refine W.g ?_
  exact q _ _ XX (λh=>by cases h)
 by_cases c2:s.gone.length<=60
 ·repeat refine W.g ?_
  exact q _ _ XX (λ_=>⟨hb rfl,c1,c2⟩)
 ·repeat refine W.g ?_
  exact q _ _ XX (λh=>by cases h)
end
end Go.Proofs.YtnjkaahbhebaeaaGreatDoor
