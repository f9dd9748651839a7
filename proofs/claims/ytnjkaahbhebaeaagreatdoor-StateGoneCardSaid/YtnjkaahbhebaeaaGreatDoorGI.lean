/- A run as it is, by the program. No condition but that its delays stand in order and memory beyond the next number is empty. -/
import Derived.Test.YtnjkaahbhebaeaaGreatDoorXU
import Derived.Test.YtnjkaahbhebaeaaGreatDoorMQ
import Derived.Test.YtnjkaahbhebaeaaGreatDoorHB
set_option linter.unusedVariables false
set_option linter.unusedSimpArgs false
set_option maxRecDepth 100000
namespace Go.Proofs.YtnjkaahbhebaeaaGreatDoor
open Go Go.CM Go.CM.Tt
noncomputable section
set_option maxHeartbeats 16000000
theorem run_w' {h:Heap} {tm:Tm} {Q:R->Prop} {cs:List CV} {s:StateD} {id:Int×Int} (ss:Rp.R h cs s) (rh:RH h) (fr:Fresh h) (sm:s.w.small) (sl:s.w.whole->s.w.told.slim) (g:SortK s.late) (hp:∀d∈s.late,0<=d.pos) (hm:s.late.length<=1048576) (h1:(s.w.oneX id.1 id.2).2=0)
  (q:∀h' rs,Ext h h'->Rp.R h' rs (s.runX id).1->(∀k∈idsOf rs,h.next<=k)->Q (.val (.tup [.agg rs,.bool (s.runX id).2]) h')):W E1 (.call (.fn 112 [] []) [.agg cs,.agg [.int .i64 id.1,.int .i64 id.2]]) tm h Q:=by
 have ss0:=ss
 obtain⟨a1,a2,a3,a4,a5,a6,a7,a8,a9,a10,a11,vl,vg,rfl,rw0,t1,t2⟩:=ss
 refine W.fn (s:=fnOf Tryz.f112) rfl rfl rfl rfl ?_
 repeat (refine W.seq ?_)
 refine W.region ?_
 refine W.box rfl rfl rfl λH1 X1 n1 g1 L1=> ?_
 refine W.box rfl rfl rfl λH2 X2 n2 g2 L2=> ?_
 refine W.al rfl rfl rfl λH3 X3 n3 g3 L3=> ?_
 have g3:H3.get H2.next=some (.cells [.int .i64 0,.int .i64 0,.slice none 0 0 0,.slice none 0 0 0] false):=g3
 have X:=(X1.trans X2).trans X3
 have L1:=(L1.ext X2).ext X3
 have L2:=L2.ext X3
 clear L3
 repeat refine W.g ?_
 refine W.call rfl rfl rfl (One_w (Rp.ext X rw0) (rh.ext X) (X.fr fr) sm sl id.1 id.2 λh4 t0 n0 vA vD arr dep X4 O e4=> ?_)
 rw[h1]
 have L1:=L1.ext X4
 have g3:=(X4.old _ (by omega)).trans g3
 repeat (first|refine W.g ?_|refine W.m λh_ X_ n_ g_ L_=> ?_)
 have L6:=L_
 have X6:=X4.trans X_
 have g3:=(X_.old _ (by have:=X4.next;omega)).trans g3
 have n6:=X6.next
 have n4:=X4.next
 have ro:=one_long h1
 rw[<-e4]at ro
 obtain⟨l1,l2,l3,l4,l5⟩:=ro
 have l1:0<arr.length:=l1
 have l2:arr.length<=33:=l2
 have l3:dep.length=arr.length:=l3
 have l4:t0=id.1:=l4
 have l5:n0=id.2:=l5
 have XX:=X.trans X6
 have rr:Rp.R h_ [.int .i64 t0,.int .i64 n0,vA,vD] (⟨t0,n0,arr,dep⟩:RunD):=((OwnRn.of O).ext X_).rp
 refine W.call rfl rfl rfl (late_w (r:=⟨t0,n0,arr,dep⟩) (Rp.ext XX ss0) rr (XX.fr fr) g hp hm (by show arr.length<=_;omega) (by show dep.length<=_;omega) l1 λh7 rs X7 r7 id7=> ?_)
 have r70:=r7
 obtain⟨x1,x2,rfl,s1,s2⟩:=r7
 have g37:=(X7.old _ (by omega)).trans g3
 have n7:=X7.next
 have hid:∀k∈idsOf [.int .i64 t0,.int .i64 n0,vA,vD],H3.next<=k:=λk hk=>((OwnRn.of (t:=t0) (n:=n0) O).ids k hk).1
 have id8:∀k∈idOf x1++(idOf x2++[]),H3.next<=k:=λk hk=>by
  rcases id7 k hk with z|z
  ·exact hid k z
  ·omega
 have hrun:s.runX id=((((⟨t0,n0,arr,dep⟩:RunD)).lates (delaysL s.late (t0,n0))).1,(((⟨t0,n0,arr,dep⟩:RunD)).lates (delaysL s.late (t0,n0))).2&&decide ((((⟨t0,n0,arr,dep⟩:RunD)).lates (delaysL s.late (t0,n0))).1.lastA<=s.w.hz)):=by
  unfold StateD.runX
  rw[<-e4,l4,l5]
 obtain⟨ru,hru⟩:∃ru,ru=((⟨t0,n0,arr,dep⟩:RunD)).lates (delaysL s.late (t0,n0)):=⟨_,rfl⟩
 have r70:Rp.R h7 [.int .i64 ru.1.trip,.int .i64 ru.1.no,x1,x2] ru.1:=by rw[hru];exact r70
 rw[show((⟨t0,n0,arr,dep⟩:RunD)).lates (delaysL s.late ((⟨t0,n0,arr,dep⟩:RunD).trip,(⟨t0,n0,arr,dep⟩:RunD).no))=ru from hru.symm]at s1 s2 ⊢
 rw[<-hru]at hrun
 rw[hrun]at q
 refine W.k5 2 3 4 5 23 λT=> ?_
 repeat refine W.g ?_
 refine W.stn (vs:=[.int .i64 ru.1.trip,.int .i64 ru.1.no,x1,x2]) (cs':=[.int .i64 ru.1.trip,.int .i64 ru.1.no,x1,x2]) rfl rfl rfl rfl rfl rfl g37 rfl λM nM gM kM=> ?_
 repeat refine W.g ?_
 refine BodyQ.cellE rfl rfl rfl gM rfl rfl ?_
 refine q M _ (Ext.store (XX.trans X7) nM kM (by omega) (by omega)) ⟨x1,x2,rfl,sl_oth s1 (by omega) λk hk=>kM k ?_,sl_oth s2 (by omega) λk hk=>kM k ?_⟩ λk hk=> ?_
 ·have:=id8 k (by rw[hk];simp)
  omega
 ·have:=id8 k (by rw[hk];simp)
  omega
 ·have:=id8 k hk
  omega
end
end Go.Proofs.YtnjkaahbhebaeaaGreatDoor

namespace Go.Proofs.YtnjkaahbhebaeaaGreatDoor
open Go Go.CM Go.CM.Tt
noncomputable section
set_option maxHeartbeats 16000000
theorem there_iff {w:WorldD} (c:w.check.err=0) {id:Int×Int}:thereP (cntsX w w.trips.length w.trips.length) id↔(w.oneX id.1 id.2).2=0:=by
 have f:=WorldD.fine c
 constructor
 ·rintro⟨j,n,e,h1,h2,h3⟩
  have hj:j<w.trips.length:=by
   have:=(List.getElem?_eq_some_iff.1 h1).1
   rwa[cntsX_len]at this
  rw[cntsX_at w hj,if_pos hj,WorldD.countX_there c hj]at h1
  have h1:=Option.some.inj h1
  obtain⟨t,r,jr,T⟩:=f.at hj
  have hh:w.hasAt j id.2:=by
   rw[T.has,WorldD.has_iff T.v.1 h2]
   unfold WorldD.cntAt at h1
   rw[T.at_,T.of_]at h1
   omega
  rw[e,WorldD.oneX_there c hj hh]
 ·intro h
  obtain⟨_,j,e,hj,hh⟩:=WorldD.oneX_zero h
  refine⟨j,w.cntAt j,e,by rw[cntsX_at w hj,if_pos hj,WorldD.countX_there c hj],?_⟩
  obtain⟨t,r,jr,T⟩:=f.at hj
  rw[T.has]at hh
  have h0:0<=id.2:=hh.1
  refine⟨h0,?_⟩
  unfold WorldD.cntAt
  rw[T.at_,T.of_]
  exact(WorldD.has_iff T.v.1 h0).1 hh
theorem _root_.Go.CM.W.dixG {E:Env} {tm:Tm} {H h:Heap} {Q:R->Prop} {all rest:List Oper} {o:Oper} {bs:List Bits} {recs:List Rec} {i:Nat} {α:Type} [Flat α] {l:List α} {v:CV} {t:TypeId} {x y:Operand} {s:TyS} {et j:Nat} {kk:IntKind} {n:Int} (sl:Sl H v l) (hj:j<l.length) (hn:n=(j:Int)) (hgd:guardOn all tm o=some true) (hop:o.op= .indexAddr t x y) (hx:cvOf E.globs tm x=v) (hy:cvOf E.globs tm y= .int kk n) (hs:E.ty t=some s) (hk:s.kind= .slice et) (hz:sizeOf? E et=some (Rp.z α))
  (w:∀id off,LocE H id off (Flat.enc l[j])->W E (.draw bs all rest (i+1) recs) (putTmp tm o.dst (.ptr (some (id,off)))) h Q):W E (.draw bs all (o::rest) i recs) tm h Q:=by
 subst hn
 exact W.dixF sl hj hgd hop hx hy hs hk hz w
theorem checkLate_w {h:Heap} {tm:Tm} {Q:R->Prop} {cs:List CV} {v:CV} {s:StateD} (ss:Rp.R h cs s) (sn:Sl h v (cntsX s.w s.w.trips.length s.w.trips.length)) (rh:RH h) (fr:Fresh h) (sm:s.w.small) (sl:s.w.whole->s.w.told.slim) (c:s.w.check.err=0) (hm:s.late.length<=1048576)
  (q:∀h' e,Ext h h'->(e=0↔s.LateOk)->Q (.val (.int .i64 e) h')):W E1 (.call (.fn 102 [] []) [.agg cs,v]) tm h Q:=by
 have ss0:=ss
 obtain⟨a1,a2,a3,a4,a5,a6,a7,a8,a9,a10,a11,vl,vg,rfl,rw0,t1,t2⟩:=ss
 have f:=WorldD.fine c
 have htr:s.w.trips.length<=1048576:=sm.2.2.2.2.2.2.2.2.2.1
 refine W.fn (s:=fnOf Tryz.f102) rfl rfl rfl rfl ?_
 repeat (refine W.seq ?_)
 refine W.region ?_
 refine W.box rfl rfl rfl λH1 X1 n1 g1 L1=> ?_
 repeat refine W.g ?_
 refine W.k5 1 2 12 13 14 λT=> ?_
 refine W.loop (σ:=Nat) (λk tm h'=>Ext H1 h'/\tm.look 1=v/\tm.look 2= .ptr (some (h.next,0))/\tm.look 12=vl/\tm.look 13= .int .i64 (s.late.length:Int)/\tm.look 14= .int .i64 (k:Int)/\k<=s.late.length/\SortK (s.late.take k)/\∀d∈s.late.take k,s.lateAt d) (λk=>s.late.length-k) ?_ (s:=0)
  ⟨Ext.refl _,rfl,rfl,rfl,rfl,rfl,Nat.zero_le _,SortK.nil,λd hd=>by simp at hd⟩
 rintro k tm h' ⟨X,w1,w2,w12,w13,w14,hk,hs,ha⟩
 obtain⟨T,rfl⟩:=Tm.t5 w1 w2 w12 w13 w14
 clear w1 w2 w12 w13 w14
 have XX:=X1.trans X
 have L1':=L1.ext X
 by_cases c1:k<s.late.length
 ·obtain⟨hbn,hhb⟩:∃n,n=h'.next:=⟨_,rfl⟩
  obtain⟨d,hd⟩:∃d,d=s.late[k]:=⟨_,rfl⟩
  have hdm:d∈s.late:=by rw[hd];exact List.getElem_mem c1
  repeat refine W.g ?_
  refine W.ixF t1 c1 rfl rfl rfl rfl rfl rfl rfl λi1 o1 M1=> ?_
  replace M1:=show LocE h i1 o1 [.int .i64 d.trip,.int .i64 d.no,.int .i64 d.pos,.int .i64 d.by_]from by rw[hd];exact M1
  repeat (first|refine W.g ?_|refine W.m λh_ X_ n_ g_ L_=> ?_)
  have g6:=show h_.get h'.next=some (.cells [.int .i64 0,.int .i64 0,.int .i64 0,.int .i64 0] false)from g_
  refine W.stn (vs:=[.int .i64 d.trip,.int .i64 d.no,.int .i64 d.pos,.int .i64 d.by_]) (cs':=[.int .i64 d.trip,.int .i64 d.no,.int .i64 d.pos,.int .i64 d.by_]) rfl rfl rfl rfl rfl rfl g6 rfl λM nM gM kM=> ?_
  repeat refine W.g ?_
  have L6:LocE M h'.next 0 [.int .i64 d.trip,.int .i64 d.no,.int .i64 d.pos,.int .i64 d.by_]:=⟨_,_,gM,by omega,rfl⟩
  have nX1:=X.next
  have XY:Ext h M:=Ext.store (XX.trans X_) nM kM (by omega) (by omega)
  have XY1:Ext H1 M:=Ext.store (X.trans X_) nM kM (by omega) (by omega)
  have L1:=L1.ext XY1
  clear L1' L_ g_ g6
  refine W.k7 1 2 5 6 12 13 14 λT=> ?_
  have ds:=DX.start (XY.fr fr)
  have bad:∀{M:Heap} {e:Int},Ext h M->¬e=0->¬s.lateAt d->Q (.val (.int .i64 e) M):=λXM he hh=>q _ _ XM (Iff.intro (λh=>absurd h he) (λh=>absurd (h.2.1 d hdm) hh))
  refine W.cutB (λtm h9=>Ext M h9/\tm.look 1=v/\tm.look 2= .ptr (some (h.next,0))/\tm.look 6= .ptr (some (h'.next,0))/\tm.look 12=vl/\tm.look 13= .int .i64 (s.late.length:Int)/\tm.look 14= .int .i64 (k:Int)/\∃b:Bool,tm.look 41= .bool b/\(b=true↔¬(1<=d.by_/\d.by_<=1099511627776/\∀j,(hj:j+1=k)->ltK (s.late[j]'(by omega)) s.late[k]))) ?_ ?_
  ·by_cases b1:d.by_<1
   ·repeat (first|refine W.gd ?_|refine W.e λr_ h_ ds_ s_=> ?_)
    repeat refine W.g ?_
    exact⟨ds_.x,rfl,rfl,rfl,rfl,rfl,rfl,true,rfl,Iff.intro (λ_ h=>by have:=h.1;omega) (λ_=>rfl)⟩
   by_cases b2:1099511627776<d.by_
   ·repeat (first|refine W.gd ?_|refine W.e λr_ h_ ds_ s_=> ?_)
    repeat refine W.g ?_
    exact⟨ds_.x,rfl,rfl,rfl,rfl,rfl,rfl,true,rfl,Iff.intro (λ_ h=>by have:=h.2.1;omega) (λ_=>rfl)⟩
   by_cases b3:k=0
   ·repeat (first|refine W.gd ?_|refine W.e λr_ h_ ds_ s_=> ?_)
    repeat refine W.g ?_
    exact⟨ds_.x,rfl,rfl,rfl,rfl,rfl,rfl,false,rfl,Iff.intro (λh=>by cases h) (λh=>absurd ⟨by omega,by omega,λj hj=>by omega⟩ h)⟩
   obtain⟨j,hj⟩:∃j,k=j+1:=⟨k-1,by omega⟩
   have hjl:j<s.late.length:=by omega
   obtain⟨p,hp⟩:∃p,p=s.late[j]:=⟨_,rfl⟩
   repeat (first|refine W.gd ?_|refine W.e λr_ h_ ds_ s_=> ?_)
   refine W.dixG t1 hjl (by omega) rfl rfl rfl rfl rfl rfl rfl λi2 o2 M2=> ?_
   replace M2:=show LocE h i2 o2 [.int .i64 p.trip,.int .i64 p.no,.int .i64 p.pos,.int .i64 p.by_]from by rw[hp];exact M2
   repeat refine W.e λr_ h_ ds_ s_=> ?_
   refine W.dcallZ ds_ rfl rfl rfl rfl (keycmp_w p d ((XY.trans ds_.x).fr fr) λh2 X2=>DZ.val X2 λq2 n2 ds2 t2=> ?_)
   by_cases b4:orI [cmpI p.trip d.trip,cmpI p.no d.no,cmpI p.pos d.pos]<0
   ·repeat refine W.gd ?_
    repeat refine W.g ?_
    exact⟨ds2.x,rfl,rfl,rfl,rfl,rfl,rfl,false,rfl,Iff.intro (λh=>by cases h) (λh=>absurd ⟨by omega,by omega,λj' hj'=>by
     obtain rfl:j'=j:=by omega
     rw[<-hp,<-hd];exact cmpK_neg.1 b4⟩ h)⟩
   ·repeat refine W.gd ?_
    repeat refine W.g ?_
    exact⟨ds2.x,rfl,rfl,rfl,rfl,rfl,rfl,true,rfl,Iff.intro (λ_ h=>b4 (cmpK_neg.2 (by
     have:=h.2.2 j (by omega)
     rwa[<-hp,<-hd]at this))) (λ_=>rfl)⟩
  rintro tm h9 ⟨X9,w1,w2,w6,w12,w13,w14,b,w41,hb⟩
  obtain⟨T,rfl⟩:=Tm.t7 w1 w2 w6 w12 w13 w14 w41
  clear w1 w2 w6 w12 w13 w14 w41
  have XZ:=XY.trans X9
  have L1:=L1.ext X9
  have L6:=L6.ext X9
  clear ds
  by_cases gd:1<=d.by_/\d.by_<=1099511627776/\∀j,(hj:j+1=k)->ltK (s.late[j]'(by omega)) s.late[k]
  rotate_left
  ·obtain rfl:b=true:=hb.2 gd
   repeat refine W.g ?_
   refine q _ _ XZ (Iff.intro (λh=>by cases h) (λh=>absurd ⟨(h.2.1 d hdm).1,(h.2.1 d hdm).2.1,λj hj=> ?_⟩ gd))
   subst hj
   exact h.1.adj c1
  obtain rfl:b=false:=by
   cases b
   ·rfl
   ·exact absurd gd (hb.1 rfl)
  clear hb
  repeat refine W.g ?_
  refine W.call rfl rfl rfl (of_w d λh2 X2=> ?_)
  repeat refine W.g ?_
  have XA:=XZ.trans X2
  refine W.call rfl rfl rfl (there_w (sn.ext XA) (by rw[cntsX_len];omega) (d.trip,d.no) (XA.fr fr) λh3 b3 X3 hb3=> ?_)
  rw[there_iff c]at hb3
  have XB:=XA.trans X3
  have L1:=(L1.ext X2).ext X3
  have L6:=(L6.ext X2).ext X3
  by_cases th:(s.w.oneX d.trip d.no).2=0
  rotate_left
  ·obtain rfl:b3=false:=by
     cases b3
     ·rfl
     ·exact absurd (hb3.1 rfl) th
   repeat refine W.g ?_
   exact bad XB (by decide) (λh=>th h.2.2.1)
  obtain rfl:b3=true:=hb3.2 th
  refine W.k7 1 2 6 12 13 14 45 λT=> ?_
  repeat refine W.g ?_
  obtain⟨_,j,hj,hjl,hh⟩:=WorldD.oneX_zero th
  obtain⟨t,r,jr,T⟩:=f.at hjl
  obtain⟨⟨htl,ht⟩,⟨hrl,hr⟩,er,_,_,_,_,_,_,rst,eat,eof⟩:=id T
  have est:(s.w.routeOf (s.w.tripAt d.trip.toNat)).stops=r.stops:=by rw[hj,Int.toNat_natCast,eat,eof]
  have la:s.lateAt d↔0<=d.pos/\d.pos+1<(r.stops.length:Int):=by
   unfold StateD.lateAt
   rw[est]
   exact Iff.intro (λh=>h.2.2.2) (λh=>⟨gd.1,gd.2.1,th,h⟩)
  rw[hj]at L6
  obtain⟨b1,b2,b3,b4,b5,b6,b7,b8,b9,b10,b11,eb,p1,p2,p3,p4,p5,p6,p7,p8,p9,p10,p11⟩:=id rw0
  injection eb with _ eb;injection eb with e1 eb;injection eb with e2 eb;injection eb with e3 eb;injection eb with e4 eb;injection eb with e5 eb;injection eb with e6 eb;injection eb with e7 eb;injection eb with e8 eb;injection eb with e9 eb;injection eb with e10 eb;injection eb with e11 eb
  subst e1 e2 e3 e4 e5 e6 e7 e8 e9 e10 e11
  have dsb:=DX.start (XB.fr fr)
  refine W.cutB (λtm hc=>Ext h3 hc/\tm.look 1=v/\tm.look 2= .ptr (some (h.next,0))/\tm.look 12=vl/\tm.look 13= .int .i64 (s.late.length:Int)/\tm.look 14= .int .i64 (k:Int)/\∃b:Bool,tm.look 70= .bool b/\(b=true↔¬s.lateAt d)) ?_ ?_
  ·by_cases c2:d.pos<0
   ·repeat (first|refine W.gd ?_|refine W.e λr_ h_ ds_ s_=> ?_)
    repeat refine W.g ?_
    exact⟨ds_.x,rfl,rfl,rfl,rfl,rfl,true,rfl,Iff.intro (λ_ h=>by have:=(la.1 h).1;omega) (λ_=>rfl)⟩
   repeat (first|refine W.gd ?_|refine W.e λr_ h_ ds_ s_=> ?_)
   refine W.dixF p10 hjl rfl rfl rfl rfl rfl rfl rfl λi3 o3 M3=> ?_
   replace M3:=show LocE h i3 o3 [.int .i64 (jr:Int),.int .i64 t.frm,.int .i64 t.evr,.int .i64 t.untl]from by rw[<-er,<-ht];exact M3
   repeat (first|refine W.gd ?_|refine W.e λr_ h_ ds_ s_=> ?_)
   refine W.dixR p9 hrl rfl rfl rfl rfl rfl rfl rfl λi4 o4 e4 M4 re4=> ?_
   rw[hr]at re4
   obtain⟨z1,z2,z3,rfl,y1,y2,y3⟩:=id re4
   repeat (first|refine W.gd ?_|refine W.e λr_ h_ ds_ s_=> ?_)
   refine W.dlnS y1 rfl rfl rfl rfl rfl rfl rfl ?_
   have hst:=(f.route _ (List.getElem_mem hrl)).2.1
   rw[hr]at hst
   by_cases c3:(r.stops.length:Int)-1<=d.pos
   ·repeat refine W.gd ?_
    repeat refine W.g ?_
    exact⟨ds_.x,rfl,rfl,rfl,rfl,rfl,true,rfl,Iff.intro (λ_ h=>by have:=(la.1 h).2;omega) (λ_=>rfl)⟩
   ·repeat refine W.gd ?_
    repeat refine W.g ?_
    exact⟨ds_.x,rfl,rfl,rfl,rfl,rfl,false,rfl,Iff.intro (λh=>by cases h) (λh=>absurd (la.2 ⟨by omega,by omega⟩) h)⟩
  rintro tm hc ⟨Xc,w1,w2,w12,w13,w14,b,w70,hb⟩
  obtain⟨T,rfl⟩:=Tm.t6 w1 w2 w12 w13 w14 w70
  clear w1 w2 w12 w13 w14 w70
  clear la dsb
  by_cases la:s.lateAt d
  rotate_left
  ·obtain rfl:b=true:=hb.2 la
   repeat refine W.g ?_
   exact bad (XB.trans Xc) (by decide) la
  obtain rfl:b=false:=by
   cases b
   ·rfl
   ·exact absurd la (hb.1 rfl)
  repeat refine W.g ?_
  refine⟨k+1,lessN c1,((XY1.trans X9).trans (X2.trans X3)).trans Xc,rfl,rfl,rfl,rfl,rfl,c1,hs.more c1 gd.2.2,λe he=> ?_⟩
  rw[List.take_add_one,List.getElem?_eq_getElem c1,List.mem_append]at he
  rcases he with he|he
  ·exact ha e he
  ·have he:e=s.late[k]:=by simpa using he
   rw[he,<-hd];exact la
 ·have ek:k=s.late.length:=by omega
  rw[ek,List.take_length]at hs ha
  clear ek hk
  clear L1'
  repeat refine W.g ?_
  refine W.k5 1 2 73 74 75 λT=> ?_
  refine W.loop (σ:=Nat) (λk tm h'=>Ext H1 h'/\tm.look 2= .ptr (some (h.next,0))/\tm.look 73=vl/\tm.look 74= .int .i64 (s.late.length:Int)/\tm.look 75= .int .i64 (k:Int)/\k<=s.late.length/\∀d∈s.late.take k,(s.runX (ofL d)).2=true) (λk=>s.late.length-k) ?_ (s:=0)
   ⟨X,rfl,rfl,rfl,rfl,Nat.zero_le _,λd hd=>by simp at hd⟩
  clear XX c1 X
  rintro k tm h' ⟨X,w2,w73,w74,w75,hk,hr⟩
  obtain⟨T,rfl⟩:=Tm.t4 w2 w73 w74 w75
  clear w2 w73 w74 w75
  have XX:=X1.trans X
  have L1':=L1.ext X
  by_cases c1:k<s.late.length
  rotate_left
  ·have ek:k=s.late.length:=by omega
   rw[ek,List.take_length]at hr
   repeat refine W.g ?_
   exact q _ _ XX (Iff.intro (λ_=>⟨hs,ha,hr⟩) (λ_=>rfl))
  obtain⟨d,hd⟩:∃d,d=s.late[k]:=⟨_,rfl⟩
  have hdm:d∈s.late:=by rw[hd];exact List.getElem_mem c1
  repeat refine W.g ?_
  refine W.ixF t1 c1 rfl rfl rfl rfl rfl rfl rfl λi1 o1 M1=> ?_
  replace M1:=show LocE h i1 o1 [.int .i64 d.trip,.int .i64 d.no,.int .i64 d.pos,.int .i64 d.by_]from by rw[hd];exact M1
  repeat (first|refine W.g ?_|refine W.m λh_ X_ n_ g_ L_=> ?_)
  have L8:=show LocE h_ h'.next 0 [.int .i64 d.trip,.int .i64 d.no,.int .i64 d.pos,.int .i64 d.by_]from L_
  have XY:=XX.trans X_
  have L1k:=L1'.ext X_
  have hp:∀d∈s.late,0<=d.pos:=λd hd=>(ha d hd).2.2.2.1
  have h1:(s.w.oneX (ofL d).1 (ofL d).2).2=0:=(ha d hdm).2.2.1
  clear L1' L_ g_
  refine W.k5 2 8 73 74 75 λT=> ?_
  have ds:=DX.start (XY.fr fr)
  repeat refine W.e λr_ h_ ds_ s_=> ?_
  refine W.dcallZ ds_ rfl rfl rfl rfl (of_w d λh2 X2=>DZ.val X2 λq2 n2 ds2 t2=> ?_)
  have xe:=XY.trans ds2.x
  refine W.dcallZ ds2 rfl rfl rfl rfl (run_w' (id:=ofL d) (Rp.ext xe ss0) (rh.ext xe) (xe.fr fr) sm sl hs hp hm h1 λh3 rs X3 r3 id3=>DZ.val X3 λq3 n3 ds3 t3=> ?_)
  obtain⟨x1,x2,rfl,s1,s2⟩:=r3
  repeat refine W.gd ?_
  refine W.dnewZ ds3 (v:= .ptr (some (n3.next,0))) (b:= .cells [.int .i64 0,.int .i64 0,.slice none 0 0 0,.slice none 0 0 0] false) rfl rfl rfl rfl λr4 N4 ds4 X4 n4 g4=> ?_
  refine W.dst (vs:=[.int .i64 (s.runX (ofL d)).1.trip,.int .i64 (s.runX (ofL d)).1.no,x1,x2]) (cs':=[.int .i64 (s.runX (ofL d)).1.trip,.int .i64 (s.runX (ofL d)).1.no,x1,x2]) ds4.hri rfl rfl rfl rfl rfl rfl rfl g4 rfl λq5 N5 hr5 s5=> ?_
  try refine W.dv ?_
  have n3x:=ds3.x.next
  have k5:∀k,k≠n3.next->N5.get k=N4.get k:=λk hk=>by rw[s5.get,Heap.get_put,if_neg (Ne.symm hk)]
  have n5:N5.next=N4.next:=s5.next
  have X5:Ext H1 N5:=Ext.store ((X.trans X_).trans ds4.x) n5 k5 (by have:=(X.trans X_).next;omega) (by omega)
  refine W.k5 2 10 73 74 75 λT=> ?_
  obtain⟨ok,hok⟩:∃ok,ok=(s.runX (ofL d)).2:=⟨_,rfl⟩
  rw[<-hok]
  cases ok
  ·repeat refine W.g ?_
   exact q _ _ (X1.trans X5) (Iff.intro (λh=>by cases h) (λh=>by
    have:=h.2.2 d hdm
    rw[<-hok]at this
    cases this))
  ·repeat refine W.g ?_
   refine⟨k+1,lessN c1,X5,rfl,rfl,rfl,rfl,c1,λe he=> ?_⟩
   rw[List.take_add_one,List.getElem?_eq_getElem c1,List.mem_append]at he
   rcases he with he|he
   ·exact hr e he
   ·have he:e=s.late[k]:=by simpa using he
    rw[he,<-hd];exact hok.symm
end
end Go.Proofs.YtnjkaahbhebaeaaGreatDoor

namespace Go.Proofs.YtnjkaahbhebaeaaGreatDoor
open Go Go.CM Go.CM.Tt
noncomputable section
set_option maxHeartbeats 16000000
/-- A state may be. -/
def _root_.Go.CM.Tt.StateD.Ok (s:StateD):Prop:=s.w.check.err=0/\s.w.total s.w.trips.length<=16384/\s.late.length<=4096/\s.LateOk/\s.GoneOk
theorem check_state_w {h:Heap} {tm:Tm} {Q:R->Prop} {cs:List CV} {s:StateD} (ss:Rp.R h cs s) (rh:RH h) (fr:Fresh h) (sm:s.w.small) (sl:s.w.whole->s.w.told.slim) (hg:s.gone.length<=1048576)
  (q:∀h' e,Ext h h'->(e=0↔s.Ok)->Q (.val (.int .i64 e) h')):W E1 (.call (.fn 36 [] []) [.agg cs]) tm h Q:=by
 have ss0:=ss
 obtain⟨a1,a2,a3,a4,a5,a6,a7,a8,a9,a10,a11,vl,vg,rfl,rw0,t1,t2⟩:=ss
 refine W.fn (s:=fnOf Tryz.f36) rfl rfl rfl rfl ?_
 repeat (refine W.seq ?_)
 refine W.region ?_
 refine W.box rfl rfl rfl λH1 X1 n1 g1 L1=> ?_
 repeat refine W.g ?_
 refine W.call rfl rfl rfl (All_w (Rp.ext X1 rw0) (rh.ext X1) (X1.fr fr) sm sl λh2 va e X2 ha=> ?_)
 have L1k:=L1
 have L1:=L1.ext X2
 have XX:=X1.trans X2
 refine W.k3 1 2 12 λT=> ?_
 rcases ha with⟨c,rfl,rfl⟩|⟨c,tk,rfl,rfl⟩|⟨c,tk,rfl,sa⟩
 ·repeat refine W.g ?_
  exact q _ _ XX (Iff.intro (λh=>by cases h) (λh=>absurd h.1 c))
 ·repeat refine W.g ?_
  exact q _ _ XX (Iff.intro (λh=>by cases h) (λh=>by have:=h.2.1;omega))
 by_cases hl:4096<s.late.length
 ·repeat refine W.g ?_
  exact q _ _ XX (Iff.intro (λh=>by cases h) (λh=>by have:=h.2.2.1;omega))
 repeat refine W.g ?_
 refine W.call rfl rfl rfl (counts_w (Rp.ext XX rw0) (rh.ext XX) (XX.fr fr) sm sl λh3 vn X3 sn=> ?_)
 have XY:=XX.trans X3
 have L1:=L1.ext X3
 refine W.k3 1 2 24 λT=> ?_
 repeat refine W.g ?_
 refine W.call rfl rfl rfl (checkLate_w (Rp.ext XY ss0) sn (rh.ext XY) (XY.fr fr) sm sl c (by omega) λh4 e X4 he=> ?_)
 have XZ:=XY.trans X4
 have L1:=L1.ext X4
 by_cases c0:e=0
 rotate_left
 ·repeat refine W.g ?_
  exact q _ _ XZ (Iff.intro (λh=>absurd h c0) (λh=>absurd (he.2 h.2.2.2.1) c0))
 have lok:=he.1 c0
 subst c0
 refine W.k4 1 2 5 27 λT=> ?_
 repeat refine W.g ?_
 refine W.k5 1 5 32 33 34 λT=> ?_
 have sn4:=sn.ext X4
 refine W.loop (σ:=Nat) (λk tm h'=>Ext h4 h'/\tm.look 1= .ptr (some (h.next,0))/\tm.look 5=vn/\tm.look 32=vg/\tm.look 33= .int .i64 (s.gone.length:Int)/\tm.look 34= .int .i64 (k:Int)/\k<=s.gone.length/\SortG (s.gone.take k)/\∀d∈s.gone.take k,(s.w.oneX d.1 d.2).2=0) (λk=>s.gone.length-k) ?_ (s:=0)
  ⟨Ext.refl _,rfl,rfl,rfl,rfl,rfl,Nat.zero_le _,λm n v w _ h1 _=>by simp at h1,λd hd=>by simp at hd⟩
 have L4:=L1
 clear L1 L1k
 rintro k tm h' ⟨X,w1,w5,w32,w33,w34,hk,hs,hr⟩
 obtain⟨T,rfl⟩:=Tm.t5 w1 w5 w32 w33 w34
 clear w1 w5 w32 w33 w34
 have XW:=XZ.trans X
 have L1':=L4.ext X
 by_cases c1:k<s.gone.length
 rotate_left
 ·have ek:k=s.gone.length:=by omega
  rw[ek,List.take_length]at hs hr
  repeat refine W.g ?_
  exact q _ _ XW (Iff.intro (λ_=>⟨c,tk,by omega,lok,hs,hr⟩) (λ_=>rfl))
 obtain⟨d,hd⟩:∃d,d=s.gone[k]:=⟨_,rfl⟩
 have hdm:d∈s.gone:=by rw[hd];exact List.getElem_mem c1
 repeat refine W.g ?_
 refine W.ixF t2 c1 rfl rfl rfl rfl rfl rfl rfl λi1 o1 M1=> ?_
 replace M1:=show LocE h i1 o1 [.int .i64 d.1,.int .i64 d.2]from by rw[hd];exact M1
 repeat (first|refine W.g ?_|refine W.m λh_ X_ n_ g_ L_=> ?_)
 have g6:=show h_.get h'.next=some (.cells [.int .i64 0,.int .i64 0] false)from g_
 refine W.stn (vs:=[.int .i64 d.1,.int .i64 d.2]) (cs':=[.int .i64 d.1,.int .i64 d.2]) rfl rfl rfl rfl rfl rfl g6 rfl λM nM gM kM=> ?_
 repeat refine W.g ?_
 have L6:LocE M h'.next 0 [.int .i64 d.1,.int .i64 d.2]:=⟨_,_,gM,by omega,rfl⟩
 have nX1:=XZ.next
 have nX2:=X.next
 have XV:Ext h M:=Ext.store (XW.trans X_) nM kM (by have:=XW.next;omega) (by omega)
 have XV1:Ext h4 M:=Ext.store (X.trans X_) nM kM (by omega) (by omega)
 have L1:=L4.ext XV1
 clear L1' L_ g_ g6
 refine W.k7 1 5 7 8 32 33 34 λT=> ?_
 have ds:=DX.start (XV.fr fr)
 refine W.cutB (λtm h9=>Ext M h9/\tm.look 1= .ptr (some (h.next,0))/\tm.look 5=vn/\tm.look 8= .ptr (some (h'.next,0))/\tm.look 32=vg/\tm.look 33= .int .i64 (s.gone.length:Int)/\tm.look 34= .int .i64 (k:Int)/\∃b:Bool,tm.look 51= .bool b/\(b=true↔¬(∀j,(hj:j+1=k)->ltG (s.gone[j]'(by omega)) s.gone[k]))) ?_ ?_
 ·by_cases b3:k=0
  ·repeat refine W.gd ?_
   repeat refine W.g ?_
   exact⟨ds.x,rfl,rfl,rfl,rfl,rfl,rfl,false,rfl,Iff.intro (λh=>by cases h) (λh=>absurd (λj hj=>by omega) h)⟩
  obtain⟨j,hj⟩:∃j,k=j+1:=⟨k-1,by omega⟩
  have hjl:j<s.gone.length:=by omega
  obtain⟨p,hp⟩:∃p,p=s.gone[j]:=⟨_,rfl⟩
  repeat (first|refine W.gd ?_|refine W.e λr_ h_ ds_ s_=> ?_)
  refine W.dixG t2 hjl (by omega) rfl rfl rfl rfl rfl rfl rfl λi2 o2 M2=> ?_
  replace M2:=show LocE h i2 o2 [.int .i64 p.1,.int .i64 p.2]from by rw[hp];exact M2
  repeat refine W.e λr_ h_ ds_ s_=> ?_
  refine W.dcallZ ds_ rfl rfl rfl rfl (ids_w p d ((XV.trans ds_.x).fr fr) λh2 X2=>DZ.val X2 λq2 n2 ds2 t2=> ?_)
  by_cases b4:orI [cmpI p.1 d.1,cmpI p.2 d.2]<0
  ·repeat refine W.gd ?_
   repeat refine W.g ?_
   exact⟨ds2.x,rfl,rfl,rfl,rfl,rfl,rfl,false,rfl,Iff.intro (λh=>by cases h) (λh=>absurd (λj' hj'=>by
    obtain rfl:j'=j:=by omega
    rw[<-hp,<-hd];exact cmpG_neg.1 b4) h)⟩
  ·repeat refine W.gd ?_
   repeat refine W.g ?_
   exact⟨ds2.x,rfl,rfl,rfl,rfl,rfl,rfl,true,rfl,Iff.intro (λ_ h=>b4 (cmpG_neg.2 (by
    have:=h j (by omega)
    rwa[<-hp,<-hd]at this))) (λ_=>rfl)⟩
 rintro tm h9 ⟨X9,w1,w5,w8,w32,w33,w34,b,w51,hb⟩
 obtain⟨T,rfl⟩:=Tm.t7 w1 w5 w8 w32 w33 w34 w51
 clear w1 w5 w8 w32 w33 w34 w51
 have XU:=XV.trans X9
 have L6:=L6.ext X9
 have htr:s.w.trips.length<=1048576:=sm.2.2.2.2.2.2.2.2.2.1
 clear ds L1
 by_cases gd:∀j,(hj:j+1=k)->ltG (s.gone[j]'(by omega)) s.gone[k]
 rotate_left
 ·obtain rfl:b=true:=hb.2 gd
  repeat refine W.g ?_
  refine q _ _ XU (Iff.intro (λh=>by cases h) (λh=>absurd (λj hj=> ?_) gd))
  subst hj
  exact h.2.2.2.2.1.adj c1
 obtain rfl:b=false:=by
  cases b
  ·rfl
  ·exact absurd gd (hb.1 rfl)
 clear hb
 repeat refine W.g ?_
 refine W.call rfl rfl rfl (there_w (sn4.ext ((XV1.trans X9))) (by rw[cntsX_len];omega) (d.1,d.2) (XU.fr fr) λh3 b3 X3 hb3=> ?_)
 rw[there_iff c]at hb3
 by_cases th:(s.w.oneX d.1 d.2).2=0
 rotate_left
 ·obtain rfl:b3=false:=by
    cases b3
    ·rfl
    ·exact absurd (hb3.1 rfl) th
  repeat refine W.g ?_
  exact q _ _ (XU.trans X3) (Iff.intro (λh=>by cases h) (λh=>absurd (h.2.2.2.2.2 d hdm) th))
 obtain rfl:b3=true:=hb3.2 th
 repeat refine W.g ?_
 refine⟨k+1,lessN c1,(XV1.trans X9).trans X3,rfl,rfl,rfl,rfl,rfl,c1,hs.more c1 gd,λe he=> ?_⟩
 rw[List.take_add_one,List.getElem?_eq_getElem c1,List.mem_append]at he
 rcases he with he|he
 ·exact hr e he
 ·have he:e=s.gone[k]:=by simpa using he
  rw[he,<-hd];exact th
end
end Go.Proofs.YtnjkaahbhebaeaaGreatDoor

namespace Go.Proofs.YtnjkaahbhebaeaaGreatDoor
open Go Go.CM Go.CM.Tt
noncomputable section
set_option maxHeartbeats 16000000
def idC (a:Int×Int):CV:= .agg (winE a)
theorem id_eq (a b:Int×Int):eqT E1 20 94 (idC a) (idC b)=some (decide (a=b)):=by
 rcases a with⟨a1,a2⟩
 rcases b with⟨b1,b2⟩
 rw[show eqT E1 20 94 (idC (a1,a2)) (idC (b1,b2))=some (decide (a1=b1)&&(decide (a2=b2)&&true))from by
  refine eqSt rfl ?_
  exact eqFs rfl rfl rfl (eqI rfl) (eqFs rfl rfl rfl (eqI rfl) rfl)]
 by_cases c1:a1=b1
 ·by_cases c2:a2=b2
  ·simp[c1,c2]
  ·simp[c1,c2]
 ·simp[c1]
theorem id_key:MP.Key E1 94 idC:=⟨id_eq,λa=>by
 show cvEq (.agg [.int .i64 a.1,.int .i64 a.2]) (.agg [.int .i64 a.1,.int .i64 a.2])=true
 exact cvEq_refl _,λa=>rfl⟩
theorem _root_.Go.CM.W.mupM {α:Type} [DecidableEq α] {E:Env} {kt et:TypeId} {enc:α->CV} {h:Heap} {tm:Tm} {Q:R->Prop} {all rest:List Oper} {o:Oper} {mb:Nat} {al:List (α×CV)} {k:α} {v:CV} {t:TypeId} {x y u:Operand} {st:TyS} (K:MP.Key E kt enc) (hg:h.get mb=some (.map (MP.ent enc 0 al) al.length)) (hgd:guardOn all tm o=some true) (hop:o.op= .mapUpdate t x y u) (hx:cvOf E.globs tm x= .map (some mb)) (hy:cvOf E.globs tm y=enc k) (hu:cvOf E.globs tm u=v) (hs:E.ty t=some st) (hk:st.kind= .map kt et)
  (w:∀h',h'.next=h.next->h'.get mb=some (.map (MP.ent enc 0 (MP.upd k v al)) (MP.upd k v al).length)->(∀k,k≠mb->h'.get k=h.get k)->W E (.ops all rest) (putTmp tm o.dst .undef) h' Q):W E (.ops all (o::rest)) tm h Q:=by
 refine W.op hgd (v:= .undef) (h1:=h.put mb (.map (MP.ent enc 0 (MP.upd k v al)) (MP.upd k v al).length)) ?_ (w _ rfl (put_same _ _ _) λk hk=>by rw[Heap.get_put,if_neg (Ne.symm hk)])
 unfold opAny
 rw[hop]
 show oMapUpd E (E.ty t) (cvOf E.globs tm x) (cvOf E.globs tm y) (cvOf E.globs tm u) h=_
 rw[hx,hy,hu]
 exact MP.update K hs hk hg
/-- What a state's iterator of the runs that go holds. -/
structure GoingC (h:Heap) (b1 b3 mb:Nat) (al:List ((Int×Int)×CV)) (cs:List CV) (gone:List (Int×Int)):Prop where
 l1:LocE h b1 0 cs
 m1:h.get b3=some (.cells [.map (some mb)] false)
 m3:h.get mb=some (.map (MP.ent idC 0 al) al.length)
 m5:IdMap al gone
 lt:b1<h.next/\b3<h.next/\mb<h.next
theorem GoingC.other {h h':Heap} {b1 b3 mb:Nat} {al:List ((Int×Int)×CV)} {cs:List CV} {gone:List (Int×Int)} (g:GoingC h b1 b3 mb al cs gone) (hn:h.next<=h'.next) (e1:h'.get b1=h.get b1) (e2:h'.get b3=h.get b3) (e3:h'.get mb=h.get mb):GoingC h' b1 b3 mb al cs gone:=
 ⟨g.l1.of_get e1 (by have:=g.lt.1;omega),e2.trans g.m1,e3.trans g.m3,g.m5,by have:=g.lt;omega,by have:=g.lt;omega,by have:=g.lt;omega⟩
theorem GoingC.ext {h h':Heap} {b1 b3 mb:Nat} {al:List ((Int×Int)×CV)} {cs:List CV} {gone:List (Int×Int)} (g:GoingC h b1 b3 mb al cs gone) (x:Ext h h'):GoingC h' b1 b3 mb al cs gone:=
 g.other x.next (x.old _ g.lt.1) (x.old _ g.lt.2.1) (x.old _ g.lt.2.2)
theorem _root_.Go.CM.W.apR3 {E:Env} {h:Heap} {tm:Tm} {Q:R->Prop} {all rest:List Oper} {o:Oper} {c:Call} {t t2 e:TypeId} {ts es t2s:TyS} {s s2:CV} {lo z:Nat} {l l2:List (List CV)} (X:lo<=h.next) (so:OwnR h lo z s l) (s2l:SlG h z s2 l2) (hne:l2≠[])
  (hgd:guardOn all tm o=some true) (hop:o.op= .call c) (hb:isBuiltin c.callee=some .append) (hty:c.argTypes.toList=[t,t2]) (ha:c.args.toList.map (cvOf E.globs tm)=[s,s2])
  (hts:E.ty t=some ts) (hk:ts.kind= .slice e) (hes:E.ty e=some es) (hz:es.size=z) (hz0:(Nat.beq es.size 0||Nat.beq es.bytes 0)=false) (ht2:E.ty t2=some t2s) (hk2:t2s.kind= .slice e) (hm:(l.length+l2.length)*es.bytes<=70368744177664)
  (w:∀v' h',(Fresh h->Fresh h')->OwnR h' lo z v' (l++l2)->(∀k,k<h.next->k<lo\/idOf s≠[k]->h'.get k=h.get k)->h'.next=h.next+1->idOf v'=[h.next]->W E (.ops all rest) (putTmp tm o.dst v') h' Q):W E (.ops all (o::rest)) tm h Q:=by
 obtain⟨v',h',k1,k2,k2b,k3,k4,k5,k6,k7⟩:=append_own X so s2l hts hk hes hz hz0 ht2 hk2 hm
 refine W.op hgd (v:=v') (h1:=h') ?_ (w v' h' k4 k5 k3 (k7 hne).2 (k7 hne).1)
 unfold opAny
 rw[hop]
 simp only[hb]
 show builtinV E h .append c.argTypes.toList (c.args.toList.map (cvOf E.globs tm))=_
 rw[hty,ha]
 exact k1
theorem going_w {h:Heap} {tm:Tm} {Q:R->Prop} {cs:List CV} {s:StateD} (ss:Rp.R h cs s) (hg:s.gone.length<=1048576)
  (q:∀h' b1 b3 mb al,Ext h h'->GoingC h' b1 b3 mb al cs s.gone->h.next<=b1->h.next<=b3->h.next<=mb->Q (.val (.fn 168 [] [.ptr (some (b1,0)),.ptr (some (b3,0))]) h')):W E1 (.call (.fn 107 [] []) [.agg cs]) tm h Q:=by
 obtain⟨a1,a2,a3,a4,a5,a6,a7,a8,a9,a10,a11,vl,vg,rfl,rw0,t1,t2⟩:=ss
 refine W.fn (s:=fnOf Tryz.f107) rfl rfl rfl rfl ?_
 repeat (refine W.seq ?_)
 refine W.region ?_
 refine W.box rfl rfl rfl λH1 X1 n1 g1 L1=> ?_
 repeat refine W.g ?_
 refine W.mkmap rfl rfl λH2 X2 n2 g2=> ?_
 repeat (first|refine W.g ?_|refine W.m λh_ X_ n_ g_ L_=> ?_)
 obtain⟨mb,hmb⟩:∃mb,mb=H1.next:=⟨_,rfl⟩
 rw[<-hmb]at g2 g_ ⊢
 have g3:=show h_.get H2.next=some (.cells [.map (some mb)] false)from g_
 have gm:=(X_.old mb (by omega)).trans g2
 have L3:LocE h_ H2.next 0 [.map (some mb)]:=⟨_,_,g3,by omega,rfl⟩
 have XX:=(X1.trans X2).trans X_
 have L1:=(L1.ext X2).ext X_
 clear L_
 refine W.k5 1 3 8 9 10 λT=> ?_
 refine W.loop (σ:=Nat×List ((Int×Int)×CV)) (λp tm h'=>Ext H1 h'/\h_.next<=h'.next/\tm.look 1= .ptr (some (h.next,0))/\tm.look 3= .ptr (some (H2.next,0))/\tm.look 8=vg/\tm.look 9= .int .i64 (s.gone.length:Int)/\tm.look 10= .int .i64 (p.1:Int)/\p.1<=s.gone.length/\h'.get H2.next=some (.cells [.map (some mb)] false)/\h'.get mb=some (.map (MP.ent idC 0 p.2) p.2.length)/\IdMap p.2 (s.gone.take p.1)) (λp=>s.gone.length-p.1) ?_ (s:=(0,[]))
  ⟨X2.trans X_,Nat.le_refl _,rfl,rfl,rfl,rfl,rfl,Nat.zero_le _,g3,gm,by rw[List.take_zero];exact IdMap.nil⟩
 clear g3 gm L3 XX L1 g_
 rintro⟨k,al⟩ tm h' ⟨X,nx,w1,w3,w8,w9,w10,hk,g3,gm,mo⟩
 simp only at w1 w3 w8 w9 w10 hk g3 gm mo
 obtain⟨T,rfl⟩:=Tm.t5 w1 w3 w8 w9 w10
 clear w1 w3 w8 w9 w10
 by_cases c1:k<s.gone.length
 rotate_left
 ·rw[show k=s.gone.length by omega,List.take_length]at mo
  have L1:=L1.ext X
  repeat refine W.g ?_
  exact q _ _ _ mb al (X1.trans X) ⟨L1,g3,gm,mo,by have:=X1.next;omega,by omega,by omega⟩ (Nat.le_refl _) (by omega) (by omega)
 obtain⟨d,hd⟩:∃d,d=s.gone[k]:=⟨_,rfl⟩
 repeat refine W.g ?_
 refine W.ixF t2 c1 rfl rfl rfl rfl rfl rfl rfl λi1 o1 M1=> ?_
 replace M1:=show LocE h i1 o1 [.int .i64 d.1,.int .i64 d.2]from by rw[hd];exact M1
 have XP:=X1.trans X
 repeat (first|refine W.g ?_|refine W.m λh_ X_ n_ g_ L_=> ?_)
 have L5:=show LocE _ h'.next 0 [.int .i64 d.1,.int .i64 d.2]from L_
 have L3:LocE h_ H2.next 0 [.map (some mb)]:=⟨_,_,(X_.old _ (by omega)).trans g3,by omega,rfl⟩
 have gm2:=(X_.old mb (by omega)).trans gm
 repeat refine W.g ?_
 refine W.mupM id_key (k:=d) (v:= .int .i64 1) gm2 rfl rfl rfl rfl rfl rfl rfl λM nM gM kM=> ?_
 repeat refine W.g ?_
 refine⟨(k+1,MP.upd d (.int .i64 1) al),by show s.gone.length-(k+1)<s.gone.length-k;omega,Ext.store (X.trans X_) nM kM (by omega) (by omega),by omega,rfl,rfl,rfl,rfl,rfl,c1,(kM _ (by omega)).trans ((X_.old _ (by omega)).trans g3),gM,?_⟩
 show IdMap _ (s.gone.take (k+1))
 rw[List.take_add_one,List.getElem?_eq_getElem c1,<-hd]
 exact mo.more d
/-- The iterator of the runs that go, for a consumer that never stops. -/
theorem going1_w {h:Heap} {tm:Tm} {Q:R->Prop} {b1 b3 mb:Nat} {al:List ((Int×Int)×CV)} {cs:List CV} {s:StateD} (y:Nat) (I:Nat->Nat->Heap->Prop) (ss0:Rp.R h cs s) (rh:RH h) (fr:Fresh h) (gc:GoingC h b1 b3 mb al cs s.gone) (ss:∀K k h',I K k h'->Rp.R h' cs s/\RH h'/\Fresh h'/\GoingC h' b1 b3 mb al cs s.gone) (sm:s.w.small) (sl:s.w.whole->s.w.told.slim) (c:s.w.check.err=0) (tk:s.w.total s.w.trips.length<=16384)
  (h0:∀h',Ext h h'->I h'.next 0 h') (hE:∀K k h' h2,I K k h'->Ext h' h2->I K k h2) (hskip:∀K k (hk:k<(s.w.runs s.w.trips.length).length) h',(s.w.runs s.w.trips.length)[k].id∈s.gone->I K k h'->I K (k+1) h')
  (hy:∀K k (hk:k<(s.w.runs s.w.trips.length).length),(s.w.runs s.w.trips.length)[k].id∉s.gone->∀(h':Heap) (tm:Tm) (Q:R->Prop) (rs:List CV),I K k h'->h.next<=K->K<=h'.next->Rp.R h' rs (s.w.runs s.w.trips.length)[k]->(∀a∈idsOf rs,h.next<=a/\a<K)->
   (∀h2,h'.next<=h2.next->(∀a,h.next<=a->a<K->h2.get a=h'.get a)->I K (k+1) h2->Q (.val (.bool true) h2))->W E1 (.call (.yield y) [.agg rs]) tm h' Q)
  (q:∀K h',h.next<=K->I K (s.w.runs s.w.trips.length).length h'->Q (.val (.tup []) h')):W E1 (.call (.fn 168 [] [.ptr (some (b1,0)),.ptr (some (b3,0))]) [.yield y]) tm h Q:=by
 obtain⟨L,hL⟩:∃L,L=s.w.runs s.w.trips.length:=⟨_,rfl⟩
 rw[<-hL]at hskip hy q
 obtain⟨a1,a2,a3,a4,a5,a6,a7,a8,a9,a10,a11,vl,vg,rfl,rw0,t1,t2⟩:=ss0
 have L1:=gc.l1
 refine W.fn (s:=fnOf Tryz.f168) rfl rfl rfl rfl ?_
 repeat refine W.g ?_
 refine W.call rfl rfl rfl (All_w0 rw0 rh fr sm sl λh2 va e X2 ha=> ?_)
 rcases ha with⟨nc,_,_⟩|⟨_,nt,_,_⟩|⟨_,_,rfl,css,rb⟩
 ·exact absurd c nc
 ·omega
 rw[<-hL]at rb
 have hlen:L.length<=16384:=by
  have:=runs_len (WorldD.fine c) s.w.trips.length (Nat.le_refl _)
  rw[<-hL]at this
  omega
 clear L1
 repeat refine W.g ?_
 have sl2:Sl h2 va L:=rb.toSl
 repeat refine W.g ?_
 refine W.k6 0 1 2 14 15 16 λT=> ?_
 have i2:=h0 h2 X2
 refine W.loop (σ:=Nat) (λk tm h'=>I h2.next k h'/\h2.next<=h'.next/\(∀a,h.next<=a->a<h2.next->h'.get a=h2.get a)/\tm.look 0= .yield y/\tm.look 1= .ptr (some (b1,0))/\tm.look 2= .ptr (some (b3,0))/\tm.look 14=va/\tm.look 15= .int .i64 (L.length:Int)/\tm.look 16= .int .i64 (k:Int)/\k<=L.length) (λk=>L.length-k) ?_ (s:=0)
  ⟨i2,Nat.le_refl _,λ_ _ _=>rfl,rfl,rfl,rfl,rfl,rfl,rfl,Nat.zero_le _⟩
 have rb0:=rb
 clear sl2 gc h0 i2 rb
 rintro k tm h' ⟨hi,nx,un,w0,w1,w2,w14,w15,w16,hk⟩
 obtain⟨T,rfl⟩:=Tm.t6 w0 w1 w2 w14 w15 w16
 clear w0 w1 w2 w14 w15 w16
 have nX2:=X2.next
 by_cases c1:k<L.length
 rotate_left
 ·repeat refine W.g ?_
  rw[show k=L.length by omega]at hi
  exact q _ _ X2.next hi
 obtain⟨_,_,fr',gc⟩:=ss _ k h' hi
 have rb:=rb0.keep nx λa ha hn=>un a (Nat.not_lt.1 hn) ha
 obtain⟨ia,oa,ca,xa,e,rfl,La,Ea,hce⟩:=runsB_at rb c1
 have E2:=rb0.2.2.1 k e L[k] hce (List.getElem?_eq_getElem c1)
 obtain⟨u1,u2,rfl,ou1,ou2⟩:=id Ea
 obtain⟨r,hr⟩:∃r,r=L[k]:=⟨_,rfl⟩
 rw[<-hr]at La Ea ou1 ou2
 obtain⟨_,m1,m3,m5,_,m2,m4⟩:=gc
 have Lm:LocE h' b3 0 [.map (some mb)]:=⟨_,_,m1,m2,rfl⟩
 repeat refine W.g ?_
 refine W.ix rfl rfl rfl rfl rfl rfl rfl (place_of rfl c1) ?_
 repeat (first|refine W.g ?_|refine W.m λh_ X_ n_ g_ L_=> ?_)
 have gm:=(X_.old mb m4).trans m3
 refine W.lookM id_key (k:=r.id) gm rfl rfl rfl rfl rfl rfl rfl (v:= .int .i64 (if r.id∈s.gone then 1 else 0)) (m5 r.id) ?_
 have i_:=hE _ k h' _ hi X_
 by_cases c2:r.id∈s.gone
 ·rw[if_pos c2]
  repeat refine W.g ?_
  exact⟨k+1,lessN c1,hskip _ k c1 _ (hr▸c2) i_,by have:=X_.next;omega,λa h1 h2=>(X_.old a (by omega)).trans (un a h1 h2),rfl,rfl,rfl,rfl,rfl,rfl,c1⟩
 ·rw[if_neg c2]
  repeat refine W.g ?_
  have hy2:=hy h2.next k c1
  rw[<-hr]at hy2
  refine W.call rfl rfl rfl (hy2 c2 _ _ _ _ i_ X2.next (by omega) ((Ea.ext X_).rp) (λa ha=>⟨(E2.ids a (by exact ha)).1,(E2.ids a ha).2⟩) λh4 n4 k4 i4=> ?_)
  refine W.k8 0 1 2 14 15 16 28 31 λT=> ?_
  repeat refine W.g ?_
  exact⟨k+1,lessN c1,i4,by omega,λa h1 h2=>(k4 a h1 h2).trans ((X_.old a (by omega)).trans (un a h1 h2)),rfl,rfl,rfl,rfl,rfl,rfl,c1⟩
end
end Go.Proofs.YtnjkaahbhebaeaaGreatDoor

namespace Go.Proofs.YtnjkaahbhebaeaaGreatDoor
open Go Go.CM Go.CM.Tt
noncomputable section
set_option maxHeartbeats 16000000
theorem runsS_w {h:Heap} {tm:Tm} {Q:R->Prop} {cs:List CV} {s:StateD} (ss:Rp.R h cs s) (rh:RH h) (fr:Fresh h) (sm:s.w.small) (sl:s.w.whole->s.w.told.slim) (hg:s.gone.length<=1048576)
  (q:∀h' v e,Ext h h'->(e=0↔s.Ok)->(e=0->∃css,OutB h' h.next (λa=>a<h.next) v css s.goes)->(¬e=0->v= .slice none 0 0 0)->Q (.val (.tup [v,.int .i64 e]) h')):W E1 (.call (.fn 38 [] []) [.agg cs]) tm h Q:=by
 have ss0:=ss
 obtain⟨a1,a2,a3,a4,a5,a6,a7,a8,a9,a10,a11,vl,vg,rfl,rw0,t1,t2⟩:=ss
 refine W.fn (s:=fnOf Tryz.f38) rfl rfl rfl rfl ?_
 repeat (refine W.seq ?_)
 refine W.region ?_
 refine W.box rfl rfl rfl λH1 X1 n1 g1 L1=> ?_
 repeat refine W.g ?_
 refine W.call rfl rfl rfl (check_state_w (Rp.ext X1 ss0) (rh.ext X1) (X1.fr fr) sm sl hg λh2 e X2 he=> ?_)
 have L1:=L1.ext X2
 have XX:=X1.trans X2
 by_cases c0:e=0
 rotate_left
 ·repeat refine W.g ?_
  exact q _ _ _ XX he (λh=>absurd h c0) (λ_=>rfl)
 subst c0
 have ok:=he.1 rfl
 obtain⟨c,tk,hm,⟨ls,la,lr⟩,gs,gt⟩:=id ok
 refine W.k4 1 2 3 8 λT=> ?_
 repeat (first|refine W.g ?_|refine W.m λh_ X_ n_ g_ L_=> ?_)
 have g5:=show h_.get h2.next=some (.cells [.slice none 0 0 0] false)from g_
 have L5:=L_
 have X5:=X_
 have n5:=n_
 have XY:=XX.trans X5
 have L1k:=L1.ext X5
 clear L1 L_ g_
 have L1:=L1k
 clear L1k L5
 refine W.call rfl rfl rfl (going_w (Rp.ext XY ss0) hg λh6 d1 d3 mb al X6 gc o1 o3 om=> ?_)
 refine W.k5 1 2 3 5 13 λT=> ?_
 repeat refine W.g ?_
 refine W.rangeX rfl λB hB=> ?_
 obtain⟨cl,hcl⟩:∃cl,cl=[CV.int .i64 s.w.hz,a1,a2,a3,a4,a5,a6,a7,a8,a9,a10,a11,vl,vg]:=⟨_,rfl⟩
 obtain⟨b5,hb5⟩:∃b,b=h2.next:=⟨_,rfl⟩
 obtain⟨z,hz⟩:∃z,z=h6.next:=⟨_,rfl⟩
 have XN:Ext h6 (h6.new B):=Ext.new _ _
 have nN:(h6.new B).next=h6.next+1:=rfl
 have gz0:(h6.new B).get z=some B:=by rw[hz];exact new_same _ _
 have n6:=X6.next
 have nX2:=X2.next
 have nXX:=XX.next
 obtain⟨lt1,lt3,ltm⟩:=gc.lt
 simp only[<-hb5]at hB g5 ⊢
 rw[<-hz]
 obtain⟨L,hL⟩:∃L,L=s.w.runs s.w.trips.length:=⟨_,rfl⟩
 have part_in:∀{k:Nat} (hk:k<L.length),L[k].id∉s.gone->((L.take (k+1)).filter λr=>decide (r.id∉s.gone)).map s.asIs=((L.take k).filter λr=>decide (r.id∉s.gone)).map s.asIs++[s.asIs L[k]]:=λ{k} hk hn=>by
  rw[List.take_add_one,List.getElem?_eq_getElem hk,List.filter_append,List.map_append]
  simp[hn]
 have part_out:∀{k:Nat} (hk:k<L.length),L[k].id∈s.gone->((L.take (k+1)).filter λr=>decide (r.id∉s.gone)).map s.asIs=((L.take k).filter λr=>decide (r.id∉s.gone)).map s.asIs:=λ{k} hk hn=>by
  rw[List.take_add_one,List.getElem?_eq_getElem hk,List.filter_append,List.map_append]
  simp[hn]
 have hLl:L.length<=16384:=by
  have:=runs_len (WorldD.fine c) s.w.trips.length (Nat.le_refl _)
  rw[<-hL]at this
  omega
 have XK:Ext h (h6.new B):=(XY.trans X6).trans XN
 refine going1_w (s:=s) (b1:=d1) (b3:=d3) (mb:=mb) (al:=al) z (λK k h'=>Ext h h'/\LocE h' h.next 0 [CV.int .i64 s.w.hz,a1,a2,a3,a4,a5,a6,a7,a8,a9,a10,a11,vl,vg]/\GoingC h' d1 d3 mb al [CV.int .i64 s.w.hz,a1,a2,a3,a4,a5,a6,a7,a8,a9,a10,a11,vl,vg] s.gone/\(∃v css,h'.get b5=some (.cells [v] false)/\OutB h' K (λa=>a<=z) v css (((L.take k).filter λr=>decide (r.id∉s.gone)).map s.asIs))/\h'.get z=some B/\z<h'.next/\K<=h'.next)
  (Rp.ext XK ss0) (rh.ext XK) (XK.fr fr) (gc.ext XN) (λK k h' ⟨i1,i2,i3,i4⟩=>⟨Rp.ext i1 ss0,rh.ext i1,i1.fr fr,i3⟩) sm sl c tk (λM X=>⟨XK.trans X,((L1.ext X6).ext XN).ext X,(gc.ext XN).ext X,⟨_,[],(X.old _ (by omega)).trans ((XN.old _ (by omega)).trans ((X6.old _ (by omega)).trans g5)),OutB.nil⟩,(X.old _ (by omega)).trans gz0,by have:=X.next;omega,Nat.le_refl _⟩)
  (λK k h' hh ⟨i1,i2,i3,⟨v,css,i4,i5⟩,i6,i7,i8⟩ X=>⟨i1.trans X,i2.ext X,i3.ext X,⟨v,css,(X.old _ (by omega)).trans i4,i5.keep X.next λa ha _=>X.old a ha⟩,(X.old _ i7).trans i6,Nat.lt_of_lt_of_le i7 X.next,Nat.le_trans i8 X.next⟩)
  (by rw[<-hL];exact λK k hk h' hm ⟨i1,i2,i3,⟨v,css,i4,i5⟩,i6,i7⟩=>⟨i1,i2,i3,⟨v,css,i4,by rw[part_out hk hm];exact i5⟩,i6,i7⟩) ?_ ?_
 ·rw[<-hL]
  clear gz0 XN
  rintro K k hk hn h' tm' Q' rs ⟨i1,i2,i3,⟨v,css,i4,i5⟩,i6,i7,i8⟩ hge hge2 rr rid qt
  obtain⟨r,hr⟩:∃r,r=L[k]:=⟨_,rfl⟩
  rw[<-hr]at rr
  obtain⟨x1,x2,rfl,s1,s2⟩:=id rr
  have hone:s.w.oneX r.trip r.no=(r,0):=runs_one c (by rw[hr,<-hL];exact List.getElem_mem hk)
  have hlong:=runs_long c (show r∈s.w.runs s.w.trips.length by rw[hr,<-hL];exact List.getElem_mem hk)
  have ri:=rp_run_ids rr
  have gz:=i6
  rw[hB]at gz
  refine W.yieldX gz rfl ?_
  repeat (first|refine W.g ?_|refine W.m λh_ X_ n_ g_ L_=> ?_)
  refine⟨_,_,_,_,_,(X_.old z i7).trans gz,λG nG gG kG=> ?_⟩
  have XG:Ext h G:=Ext.store (i1.trans X_) nG kG (by omega) (by omega)
  have L1:=(i2.ext X_).of_get (kG h.next (by omega)) (by omega)
  have i3:=(i3.ext X_).other (by omega) (kG d1 (by omega)) (kG d3 (by omega)) (kG mb (by omega))
  have i4:=(kG b5 (by omega)).trans ((X_.old _ (by omega)).trans i4)
  have i50:=i5
  have i5:=(i5.keep X_.next λa ha _=>X_.old a ha).keep (h':=G) (by omega) λa _ ha=>kG a (λe=>ha (by show a<=z;omega))
  have rG:Rp.R G [.int .i64 r.trip,.int .i64 r.no,x1,x2] r:=rp_run_other (Rp.ext X_ rr) (by omega) λa ha=>kG a (by have:=rid a ha;omega)
  have L6:LocE G h'.next 0 [.int .i64 r.trip,.int .i64 r.no,x1,x2]:=⟨_,_,(kG _ (by omega)).trans g_,by omega,rfl⟩
  clear L_
  repeat refine W.g ?_
  refine W.call rfl rfl rfl (late_w (r:=r) (Rp.ext XG ss0) rG (XG.fr fr) ls (λd hd=>(la d hd).2.2.2.1) (by omega) (by omega) (by omega) hlong.1 λh7 rs7 X7 r7 id7=> ?_)
  obtain⟨ra,hra⟩:∃ra,ra=s.asIs r:=⟨_,rfl⟩
  have r7:Rp.R h7 rs7 ra:=by rw[hra];exact r7
  rw[show(r.lates (delaysL s.late (r.trip,r.no))).1=ra from hra.symm]
  obtain⟨y1,y2,rfl,e1,e2⟩:=id r7
  have n7:=X7.next
  have g67:=(X7.old h'.next (by omega)).trans ((kG h'.next (by omega)).trans g_)
  clear L6
  refine W.k6 1 2 3 5 6 18 λT=> ?_
  repeat refine W.g ?_
  refine W.stn (vs:=[.int .i64 ra.trip,.int .i64 ra.no,y1,y2]) (cs':=[.int .i64 ra.trip,.int .i64 ra.no,y1,y2]) rfl rfl rfl rfl rfl rfl g67 rfl λM nM gM kM=> ?_
  have LM:LocE M h'.next 0 [.int .i64 ra.trip,.int .i64 ra.no,y1,y2]:=⟨_,_,gM,by omega,rfl⟩
  have id8:∀a∈idsOf [.int .i64 ra.trip,.int .i64 ra.no,y1,y2],z<a/\a≠h'.next:=λa ha=>by
   rcases id7 a ha with hh|hh
   ·have:=rid a hh
    have:=ri a hh
    omega
   ·omega
  have rM:Rp.R M [.int .i64 ra.trip,.int .i64 ra.no,y1,y2] ra:=rp_run_other r7 (by omega) λa ha=>kM a (id8 a ha).2
  have XM:Ext h M:=Ext.store (XG.trans X7) nM kM (by omega) (by omega)
  have b5M:=(kM b5 (by omega)).trans ((X7.old _ (by omega)).trans i4)
  have Lb:LocE M b5 0 [v]:=⟨_,_,b5M,by omega,rfl⟩
  have L1:=(L1.ext X7).of_get (kM h.next (by omega)) (by omega)
  have iM:=i50.keep (h':=M) (by omega) λa ha hz=>(kM a (by omega)).trans ((X7.old a (by omega)).trans ((kG a (λe=>hz (by show a<=z;omega))).trans (X_.old a ha)))
  have i6M:=(kM z (by omega)).trans ((X7.old z (by omega)).trans gG)
  have i3M:=(i3.ext X7).other (h':=M) (by omega) (kM d1 (by omega)) (kM d3 (by omega)) (kM mb (by omega))
  have bl:css.length<=16384:=by
   have h1:=iM.2.1
   rw[List.length_map]at h1
   have h2:=List.length_filter_le (λr=>decide (r.id∉s.gone)) (L.take k)
   have h3:=List.length_take_le' k L
   omega
  clear i5 gM
  repeat (first|refine W.g ?_|refine W.n λh_ X_ n_ g_ S_=> ?_)
  have S_:SlG _ 4 (.slice (some (M.next,0)) 1 1 0) [[.int .i64 ra.trip,.int .i64 ra.no,y1,y2]]:=S_
  refine W.apR3 (lo:=K) (z:=4) (by omega) (iM.1.ext X_) S_ (by simp) rfl rfl rfl rfl rfl rfl rfl rfl rfl rfl rfl rfl (by
   show(_+1)*64<=_
   omega) λv' h8 f8 O8 k8 n8 i8'=> ?_
  have vid:∀a∈idOf v,K<=a:=λa ha=>(OwnR.ids iM.1 a ha).1
  have OM:=iM.more X_ (λa ha=>by have:a<=z:=ha;omega) (Rp.ext X_ rM) (λa ha=>⟨λhz=>by have:a<=z:=hz;have:=(id8 a ha).1;omega,λhv=>by
   have h1:=vid a hv
   have h2:=iM.2.2.2.2 a hv
   rcases id7 a ha with hh|hh
   ·have:=(rid a hh).2
    omega
   ·have:=(OwnR.ids i50.1 a hv).2
    omega⟩) O8 (λa ha hne=>k8 a ha (.inr hne)) n8 i8'
  have ne5:∀a,a<=z->idOf v≠[a]:=λa ha e=>iM.2.2.2.2 a (by rw[e];simp) ha
  have old8:∀a,a<=z->h8.get a=M.get a:=λa ha=>(k8 a (by omega) (.inr (ne5 a ha))).trans (X_.old a (by omega))
  have X8:Ext h h8:=⟨by have:=XM.next;omega,λa ha=>(old8 a (by omega)).trans (XM.old a ha),λf=>f8 ((XM.trans X_).fr f)⟩
  obtain⟨pv,nv,cv,xv,ev⟩:=O8.form
  have hcells:v'.cells=some [v']:=by rw[ev];rfl
  clear Lb L1 LM
  refine W.stn (vs:=[v']) (cs':=[v']) rfl rfl rfl hcells rfl rfl ((old8 b5 (by omega)).trans b5M) rfl λN nN gN kN=> ?_
  repeat refine W.g ?_
  refine RoundQ.norm ((kN z (by omega)).trans ((old8 z (Nat.le_refl _)).trans i6M)) λJ nJ gJ kJ=>qt J (by omega) (λa h1 h2=> ?_) ?_
  ·refine(kJ a (by omega)).trans ((kN a (by omega)).trans ((k8 a (by omega) (.inl h2)).trans ((X_.old a (by omega)).trans ((kM a (by omega)).trans ((X7.old a (by omega)).trans ((kG a (by omega)).trans ?_))))))
   exact Ext.old (by assumption) a (by omega)
  ·have oldJ:∀a,a<z->a≠b5->J.get a=M.get a:=λa h1 h2=>(kJ a (by omega)).trans ((kN a h2).trans (old8 a (by omega)))
   refine⟨Ext.store (Ext.store X8 nN kN (by omega) (by omega)) nJ kJ (by omega) (by omega),?_,i3M.other (by omega) (oldJ d1 (by omega) (by omega)) (oldJ d3 (by omega) (by omega)) (oldJ mb (by omega) (by omega)),⟨v',css++[[.int .i64 ra.trip,.int .i64 ra.no,y1,y2]],(kJ b5 (by omega)).trans gN,?_⟩,by rw[hB];exact gJ,by omega,by omega⟩
   ·exact i2.of_get ((oldJ h.next (by omega) (by omega)).trans ((kM _ (by omega)).trans ((X7.old _ (by omega)).trans ((kG _ (by omega)).trans (Ext.old (by assumption) _ (by omega)))))) (by omega)
   ·rw[part_in hk hn,<-hr,<-hra]
    exact(OM.keep (h':=N) (by omega) λa _ ha=>kN a (λe=>ha (by show a<=z;omega))).keep (h':=J) (by omega) λa _ ha=>kJ a (λe=>ha (by show a<=z;omega))
 ·rw[<-hL]
  clear gz0 XN
  rintro K h' hge ⟨i1,i2,i3,⟨v,css,i4,i5⟩,i6,i7,i8⟩
  have gz:=i6
  rw[hB]at gz
  refine RangeQ.val gz rfl ?_
  have dl:∀k,k≠z->(h'.del z).get k=h'.get k:=λk hk=>by rw[Heap.get_del,if_neg (Ne.symm hk)]
  have XD:=i1.del (i:=z) (by omega)
  have nD:(h'.del z).next=h'.next:=rfl
  obtain⟨D2,hD⟩:∃D,D=h'.del z:=⟨_,rfl⟩
  rw[<-hD]at dl XD nD
  rw[<-hD]
  have RD:=i5.keep (h':=D2) (by omega) λa _ ha=>dl a (λe=>ha (by show a<=z;omega))
  have L5:LocE D2 b5 0 [v]:=⟨_,_,(dl b5 (by omega)).trans i4,by omega,rfl⟩
  obtain⟨pv,nv,cv,xv,ev⟩:=RD.1.form
  refine W.k4 1 2 3 5 λT=> ?_
  repeat refine W.g ?_
  rw[List.take_length]at RD
  have eg:s.goes=(L.filter λr=>decide (r.id∉s.gone)).map s.asIs:=by unfold StateD.goes;rw[<-hL]
  rw[<-eg]at RD
  refine q _ _ _ XD he (λ_=>⟨css,OwnR.low RD.1 (by omega),RD.2.1,RD.2.2.1,λa ha=>⟨(RD.2.2.2.1 a ha).1,(RD.2.2.2.1 a ha).2.1,λhp=>(RD.2.2.2.1 a ha).2.2 (by have:a<h.next:=hp;show a<=z;omega)⟩,λa ha hp=>RD.2.2.2.2 a ha (by have:a<h.next:=hp;show a<=z;omega)⟩) (λh=>absurd rfl h)
end
end Go.Proofs.YtnjkaahbhebaeaaGreatDoor
