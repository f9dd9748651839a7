/- The document's answer: names told twice, the first thing that does not hold. No condition but that memory beyond the next number is empty. -/
import Derived.Test.YtfheibkikpefkaaGreatDoorXU
import Derived.Test.YtfheibkikpefkaaGreatDoorYM
import Derived.Test.YtfheibkikpefkaaGreatDoorXQ7
import Derived.Test.YtfheibkikpefkaaGreatDoorRD
import Derived.Test.YtfheibkikpefkaaGreatDoorZW
import Derived.Test.YtfheibkikpefkaaGreatDoorXQ4
import Derived.Test.YtfheibkikpefkaaGreatDoorRF
set_option linter.unusedVariables false
set_option linter.unusedSimpArgs false
namespace Go.Proofs.YtfheibkikpefkaaGreatDoor
open Go Go.CM Go.CM.Tt
noncomputable section
set_option maxHeartbeats 16000000
theorem rroute_w {h:Heap} {tm:Tm} {Q:R->Prop} {cs:List CV} {r:RouteW} (rr:Rp.R h cs r) (fr:Fresh h) (hl:r.rides.length+1=r.stops.length) (hs:r.stops.length<=1000) (hge:∀s∈r.stops,-1<=s) (q:∀h',Ext h h'->Q (.val (.int .i64 r.err) h')):W E1 (.call (.fn 139 [] []) [.agg cs]) tm h Q:=by
 obtain⟨v1,v2,v3,rfl,s1,s2,s3⟩:=rr;refine W.fn (s:=fnOf Tryz.f139) rfl rfl rfl rfl ?_;repeat (refine W.seq ?_)
 refine W.region ?_;refine W.box rfl rfl rfl λH XH nH gH LH=> ?_;repeat refine W.g ?_
 have t1:=s1.ext XH;have t2:=s2.ext XH;refine W.k2 1 3 λT=> ?_;refine W.loop (σ:=Nat) (λk tm h'=>Ext H h'/\tm.look 1= .ptr (some (h.next,0))/\tm.look 3= .int .i64 (k:Int)/\k<=r.stops.length/\∀j a,j<k->r.stops[j]? =some a->0<=a) (λk=>r.stops.length-k) ?_ (s:=0) ⟨Ext.refl _,rfl,rfl,Nat.zero_le _,λj a hj=>by omega⟩;rintro k tm h' ⟨X,w1,w3,hk,hok⟩;obtain⟨T,rfl⟩:=Tm.t2 w1 w3;clear w1 w3;have u1:=t1.ext X;by_cases c1:k<r.stops.length
 ·repeat refine W.g ?_
  refine W.iz λi_ o_ L_=> ?_;by_cases c2:r.stops[k]<0
  ·repeat refine W.g ?_
   have:r.stops[k]= -1:=by have:=hge _ (List.getElem_mem c1);omega
   have e:r.err=5:=by unfold RouteW.err;rw[if_pos (by rw[<-this];exact List.getElem_mem c1)]
   rw[e]at q;exact q _ Ext.x
  ·repeat refine W.g ?_
   refine⟨k+1,lessN c1,Ext.x,rfl,rfl,c1,λj a hj ha=> ?_⟩;by_cases e:j=k
   ·subst e
    rw[List.getElem?_eq_getElem c1]at ha;cases ha;omega
   ·exact hok j a (by omega) ha
 have hno:(-1:Int)∉r.stops:=λhm=>by
  obtain⟨j,hj⟩:=List.getElem?_of_mem hm;have h1:=(List.getElem?_eq_some_iff.1 hj).1;have:=hok j _ (by omega) hj;omega
 repeat refine W.g ?_
 clear hok hk c1 u1;refine W.k2 1 4 λT=> ?_;have gd:∀{l:List Int} {j:Nat} (h:j<l.length),l.getD j 0=l[j]:=λ{l j} h=>by rw[List.getD_eq_getElem?_getD,List.getElem?_eq_getElem h];rfl
 refine W.loop (σ:=Nat) (λk tm h'=>Ext h' h'/\Ext H h'/\tm.look 1= .ptr (some (h.next,0))/\tm.look 4= .int .i64 ((k+1:Nat):Int)/\k+1<=r.stops.length+1/\∀j,j<k->¬r.badAt j) (λk=>r.stops.length-k) ?_ (s:=0) ⟨Ext.refl _,X,rfl,rfl,by omega,λj hj=>by omega⟩;clear X;rintro k tm h' ⟨_,X,w1,w4,hk,hok⟩;obtain⟨T,rfl⟩:=Tm.t2 w1 w4;clear w1 w4;have u1:=t1.ext X;have u2:=t2.ext X;have hsub:((k+1:Nat):Int)-1=(k:Int):=by omega
 by_cases c1:k+1<r.stops.length
 ·have ck:k<r.stops.length:=by omega
  have cr:k<r.rides.length:=by omega
  repeat refine W.g ?_
  have ds:=DX.start ((XH.trans X).fr fr);repeat (first|refine W.gd ?_|refine W.e λr_ h_ ds_ s_=> ?_)
  refine W.dixF u1 c1 rfl rfl rfl rfl rfl rfl rfl λi1 o1 L1=> ?_;repeat (first|refine W.gd ?_|refine W.e λr_ h_ ds_ s_=> ?_)
  rw[hsub];refine W.dixF u1 ck rfl rfl rfl rfl rfl rfl rfl λi2 o2 L2=> ?_;repeat (first|refine W.gd ?_|refine W.e λr_ h_ ds_ s_=> ?_)
  have Xd:=ds_.x;have bad:r.badAt k->r.err=2:=λhb=>by unfold RouteW.err;rw[if_neg hno,if_pos ⟨k,cr,hb⟩]
  by_cases c2:r.stops[k+1]=r.stops[k]
  ·repeat refine W.gd ?_
   repeat refine W.g ?_
   rw[bad (.inr (by rw[gd ck,gd c1];exact c2.symm))]at q;exact q _ Ext.x
  ·repeat (first|refine W.gd ?_|refine W.e λr_ h_ ds_ s_=> ?_)
   rw[hsub];refine W.dixF u2 cr rfl rfl rfl rfl rfl rfl rfl λi3 o3 L3=> ?_;repeat (first|refine W.gd ?_|refine W.e λr_ h_ ds_ s_=> ?_)
   have Xe:=ds_.x;by_cases c3:r.rides[k]<1
   ·repeat refine W.gd ?_
    repeat refine W.g ?_
    rw[bad (.inl (by rw[gd cr];exact c3))]at q;exact q _ Ext.x
   ·repeat refine W.gd ?_
    repeat refine W.g ?_
    refine⟨k+1,lessN ck,Ext.refl _,Ext.x,rfl,rfl,by omega,λj hj=> ?_⟩;by_cases e:j=k
    ·subst e
     rintro(hb|hb)
     ·rw[gd cr]at hb;exact c3 hb
     ·rw[gd ck,gd c1]at hb;exact c2 hb.symm
    ·exact hok j (by omega)
 ·repeat refine W.g ?_
  have e:r.err=0:=by unfold RouteW.err;rw[if_neg hno,if_neg (λ⟨j,hj,hb⟩=>hok j (by omega) hb)]
  rw[e]at q;exact q _ Ext.x
theorem rlists_w {h:Heap} {tm:Tm} {Q:R->Prop} {cs:List CV} {n:NamesD} (r:Rp.R h cs n) (q:∀h' v,Ext h h'->Sl h' v [n.stops,n.paths,n.doors,n.routes,n.trips,n.hazards]->Q (.val v h')):W E1 (.call (.fn 136 [] []) [.agg cs]) tm h Q:=by
 obtain⟨v1,v2,v3,v4,v5,v6,rfl,s1,s2,s3,s4,s5,s6⟩:=r;refine W.fn (s:=fnOf Tryz.f136) rfl rfl rfl rfl ?_;repeat (refine W.seq ?_)
 refine W.region ?_;refine W.box rfl rfl rfl λH XH nH gH LH=> ?_;repeat refine W.g ?_
 have d1:=s1.cells;have d2:=s2.cells;have d3:=s3.cells;have d4:=s4.cells;have d5:=s5.cells;have d6:=s6.cells
 refine W.bs1 (n:=6) (cs:=[v1,v2,v3,v4,v5,v6]) rfl rfl (by
  show newSl H 6 6 (fillAt (λi=>some (i*1,1)) (rep [.slice none 0 0 0] 6) [(0,v1),(1,v2),(2,v3),(3,v4),(4,v5),(5,v6)])=_;simp only[fillAt,d1,d2,d3,d4,d5,d6];rfl) rfl λh_ X_ n_ g_ S_=> ?_
 repeat refine W.g ?_
 have X:=XH.trans X_;refine q _ _ X ⟨_,S_,rfl,λj cs d hc hd=> ?_⟩
 match j,hc,hd with
 |0,hc,hd=>cases hc;cases hd;exact⟨_,rfl,s1.ext X⟩
 |1,hc,hd=>cases hc;cases hd;exact⟨_,rfl,s2.ext X⟩
 |2,hc,hd=>cases hc;cases hd;exact⟨_,rfl,s3.ext X⟩
 |3,hc,hd=>cases hc;cases hd;exact⟨_,rfl,s4.ext X⟩
 |4,hc,hd=>cases hc;cases hd;exact⟨_,rfl,s5.ext X⟩
 |5,hc,hd=>cases hc;cases hd;exact⟨_,rfl,s6.ext X⟩
 |n+6,hc,hd=>cases hd
theorem rtwice_w {h:Heap} {tm:Tm} {Q:R->Prop} {cs:List CV} {n:NamesD} (r:Rp.R h cs n) (few:([n.stops,n.paths,n.doors,n.routes,n.trips,n.hazards]:List (List Str)).flatten.length<=1048576) (q:∀h',Ext h h'->Q (.val (.agg (n.twice.getD Wrong0).enc) h')):W E1 (.call (.fn 103 [] []) [.agg cs]) tm h Q:=by
 refine W.fn (s:=fnOf Tryz.f103) rfl rfl rfl rfl ?_;have r0:=r;obtain⟨v1,v2,v3,v4,v5,v6,rfl,s1,s2,s3,s4,s5,s6⟩:=r;repeat (refine W.seq ?_)
 refine W.region ?_;refine W.box rfl rfl rfl λH1 XH1 nH1 gH1 LH1=> ?_;repeat (first|refine W.g ?_|refine W.m λh_ X_ n_ g_ L_=> ?_)
 obtain⟨H,hH⟩:∃H,H=h_:=⟨_,rfl⟩;rw[<-hH]at X_ n_ g_ L_ ⊢;have XA:=X_;have nA:=n_;have gA:=g_;have LA:=L_;clear X_ n_ g_ L_ hH;have XH:Ext h H:=XH1.trans XA;have gR:H.get H1.next=some (.cells [.int .i64 0,.int .i64 0,.int .i64 0] false):=gA;refine W.call rfl rfl rfl (rlists_w (Rp.ext XH r0) λG v XG sl=> ?_);unfold NamesD.twice at q;obtain⟨L,hL⟩:∃L,L=[n.stops,n.paths,n.doors,n.routes,n.trips,n.hazards]:=⟨_,rfl⟩;rw[<-hL]at sl few q;have hl6:L.length=6:=by rw[hL];rfl
 have hpart:∀(k i:Nat) (l:List Str),L[k]? =some l->i<=l.length->((L.take k).flatten++l.take i).length<=1048576:=λk i l hk hi=>by
  have e:L.flatten=(L.take k).flatten++(l++(L.drop (k+1)).flatten):=by
   conv=>lhs;rw[<-List.take_append_drop k L,List.flatten_append]
   rw[List.drop_eq_getElem_cons (List.getElem?_eq_some_iff.1 hk).1,List.flatten_cons,(List.getElem?_eq_some_iff.1 hk).2]
  rw[e]at few;simp only[List.length_append,List.length_take]at few ⊢;omega
 clear hL;refine W.k3 2 3 8 λT=> ?_;repeat refine W.g ?_
 refine W.loop (σ:=Nat) (λk tm h'=>Ext G h'/\tm.look 2= .ptr (some (H1.next,0))/\tm.look 4=v/\tm.look 5= .int .i64 (k:Int)/\k<=L.length/\(∀n' l',n'<k->L[n']? =some l'->Tt.Clean ((L.take n').flatten) l' l'.length)/\∃u:CV,tm.look 3=u/\OwnR h' G.next 1 u ((L.take k).flatten.map Flat.enc)) (λk=>L.length-k) ?_ (s:=0) ⟨Ext.x,rfl,rfl,rfl,Nat.zero_le _,λn' l' hn=>by omega,_,rfl,OwnR.nil⟩;rintro k tm h' ⟨X,w2,w4,w5,hk,hcl,u,w3,O⟩;obtain⟨pv,nv,cv,xv,e⟩:=O.form;cases e;obtain⟨T,rfl⟩:=Tm.t4 w2 w3 w4 w5;clear w2 w3 w4 w5;by_cases c1:k<L.length
 ·have hkl:L[k]? =some L[k]:=List.getElem?_eq_getElem c1
  have hLk:L[k].length<=1048576:=by
   have:=hpart k L[k].length _ hkl (Nat.le_refl _);rw[List.length_append,List.take_length]at this;omega
  have e9:(L.take (k+1)).flatten=(L.take k).flatten++L[k]:=by
   rw[List.take_add_one,List.getElem?_eq_getElem c1,List.flatten_append];simp
  repeat refine W.g ?_
  refine W.loop (σ:=Nat) (λi tm h2=>Ext G h2/\tm.look 2= .ptr (some (H1.next,0))/\tm.look 4=v/\tm.look 5= .int .i64 (k:Int)/\tm.look 6= .int .i64 (i:Int)/\i<=L[k].length/\Tt.Clean ((L.take k).flatten) L[k] i/\∃u:CV,tm.look 3=u/\OwnR h2 G.next 1 u (((L.take k).flatten++L[k].take i).map Flat.enc)) (λi=>L[k].length-i) ?_ (s:=0) ⟨X,rfl,rfl,rfl,rfl,Nat.zero_le _,λm a hm=>by omega,_,rfl,by rw[List.take_zero,List.append_nil];exact O⟩;clear O X;rintro i tm h2 ⟨X,w2,w4,w5,w6,hi,hci,u,w3,O⟩;obtain⟨pv,nv,cv,xv,e⟩:=O.form;cases e;obtain⟨T,rfl⟩:=Tm.t5 w2 w3 w4 w5 w6;clear w2 w3 w4 w5 w6;have sl2:=sl.ext X;have nX:=X.next;have nXG:=XG.next;have hlen:=hpart k i _ hkl hi;repeat refine W.g ?_
  refine W.ixR sl2 c1 rfl rfl rfl rfl rfl rfl rfl λi1 o1 e1 L1 re=> ?_;obtain⟨w,rfl,sw⟩:=re;by_cases c2:i<L[k].length
  ·repeat refine W.g ?_
   refine W.ixR sl2 c1 rfl rfl rfl rfl rfl rfl rfl λi2 o2 e2 L2 re=> ?_;obtain⟨w',rfl,sw'⟩:=re;repeat refine W.g ?_
   refine W.iz λi_ o_ L_=> ?_;repeat refine W.g ?_
   refine W.call rfl rfl rfl (rplace_w _ (Sl.of_map Flat.iff O.sl) (by omega) ?_);by_cases c3:0<=place ((L.take k).flatten++L[k].take i) L[k][i]
   ·repeat refine W.g ?_
    refine W.call rfl rfl rfl (rwrong_w _ _ _ λh3 X3=> ?_)
    have e:dups [] L 1=some ⟨6,(k:Int)+1,i⟩:=by
     rw[dups_some (L:=L) (seen:=[]) (k:=1) (n:=k) (l:=L[k]) (j:=i) (a:=L[k][i]) (λn' l' hn hl'=>by simpa using hcl n' l' hn hl') hkl (by simpa using hci) (List.getElem?_eq_getElem c2) (by simpa using place_mem.1 c3),show(1:Int)+k=(k:Int)+1 by omega]
    rw[e]at q;repeat refine W.g ?_
    refine W.stn (vs:=[.int .i64 6,.int .i64 ((k:Int)+1),.int .i64 (i:Int)]) (cs':=[.int .i64 6,.int .i64 ((k:Int)+1),.int .i64 (i:Int)]) rfl rfl rfl rfl rfl rfl (((XG.trans (X.trans X3)).old H1.next (by omega)).trans gR) rfl λM nM gM kM=> ?_;repeat refine W.g ?_
    refine BodyQ.cell1 rfl rfl gM rfl rfl ?_;have nX3:=X3.next;exact q _ (Ext.store (XH.trans (XG.trans (X.trans X3))) nM kM (by omega) (by omega))
   ·repeat refine W.g ?_
    refine W.ixR sl2 c1 rfl rfl rfl rfl rfl rfl rfl λi4 o4 e4 L4 re=> ?_;obtain⟨w'',rfl,sw''⟩:=re;repeat refine W.g ?_
    refine W.iz λi_ o_ L_=> ?_;repeat (first|refine W.g ?_|refine W.n λh_ X_ n_ g_ S_=> ?_)
    have S_:SlG _ 1 _ (([L[k][i]]:List Str).map Flat.enc):=S_
    refine W.apR (H:=G) (z:=1) (X.trans X_) (O.ext X_) S_ rfl rfl rfl rfl rfl rfl rfl rfl rfl rfl rfl rfl (by
     rw[List.length_map];simp only[List.length_map,List.length_cons,List.length_nil];show _*16<=_;omega) λv' h3 X3 O3=> ?_
    obtain⟨pv,nv,cv,xv,e⟩:=O3.form;cases e;repeat refine W.g ?_
    refine⟨i+1,lessN c2,X3,rfl,rfl,rfl,rfl,c2,λm a hm ha=> ?_,_,rfl,by rw[List.take_add_one,List.getElem?_eq_getElem c2,<-List.append_assoc,map_app];exact O3⟩;by_cases e:m=i
    ·subst e
     rw[List.getElem?_eq_getElem c2]at ha;cases ha;exact λhm=>c3 (place_mem.2 hm)
    ·exact hci m a (by omega) ha
  ·repeat refine W.g ?_
   have ei:i=L[k].length:=by omega
   rw[ei,List.take_length]at O;refine⟨k+1,lessN c1,X,rfl,rfl,rfl,c1,λn' l' hn hl=> ?_,_,rfl,by rw[e9];exact O⟩;by_cases e:n'=k
   ·subst e
    rw[hkl]at hl;cases hl;rw[<-ei];exact hci
   ·exact hcl n' l' (by omega) hl
 ·have e:dups [] L 1=none:=dups_no λn' l' hl=>by
    have:=(List.getElem?_eq_some_iff.1 hl).1;simpa using hcl n' l' (by omega) hl
  rw[e]at q;have nX:=X.next;have nXG:=XG.next;repeat refine W.g ?_
  refine W.stn (vs:=[.int .i64 0,.int .i64 0,.int .i64 0]) (cs':=[.int .i64 0,.int .i64 0,.int .i64 0]) rfl rfl rfl rfl rfl rfl (((XG.trans X).old H1.next (by omega)).trans gR) rfl λM nM gM kM=> ?_;repeat refine W.g ?_
  refine BodyQ.cell1 rfl rfl gM rfl rfl ?_;exact q _ (Ext.store (XH.trans (XG.trans X)) nM kM (by omega) (by omega))
end
end Go.Proofs.YtfheibkikpefkaaGreatDoor

namespace Go.Proofs.YtfheibkikpefkaaGreatDoor
open Go Go.CM Go.CM.Tt
noncomputable section
set_option maxHeartbeats 16000000
theorem rfirst_w {h:Heap} {tm:Tm} {Q:R->Prop} {cs:List CV} {w:WorldD} (r:Rp.R h cs w) (fr:Fresh h) (hl:∀r∈w.routes,r.rides.length+1=r.stops.length/\r.stops.length<=1000/\∀s∈r.stops,-1<=s)
  (n1:w.paths.length<=1048576) (n2:w.doors.length<=1048576) (n3:w.routes.length<=1048576) (n4:w.trips.length<=1048576) (n5:w.hazards.length<=1048576)
  (q:∀h',Ext h h'->Q (.val (.agg w.first.enc) h')):W E1 (.call (.fn 104 [] []) [.agg cs]) tm h Q:=by
 refine W.fn (s:=fnOf Tryz.f104) rfl rfl rfl rfl ?_;obtain⟨v1,v2,v3,v4,v5,v6,v7,v8,v9,v10,v11,rfl,s1,s2,s3,s4,s5,s6,s7,s8,s9,s10,s11⟩:=r;repeat (refine W.seq ?_)
 refine W.region ?_;refine W.box rfl rfl rfl λH1 XH1 nH1 gH1 LH1=> ?_;repeat (first|refine W.g ?_|refine W.m λh_ X_ n_ g_ L_=> ?_)
 obtain⟨H,hH⟩:∃H,H=h_:=⟨_,rfl⟩;rw[<-hH]at X_ n_ g_ L_ ⊢;have XA:=X_;have nA:=n_;have gA:=g_;have LA:=L_;clear X_ n_ g_ L_ hH;have XH:Ext h H:=XH1.trans XA;have LH:=LH1.ext XA;have gR:H.get H1.next=some (.cells [.int .i64 0,.int .i64 0,.int .i64 0] false):=gA;have t7:=s7.ext XH;have t8:=s8.ext XH;have t9:=s9.ext XH;have t10:=s10.ext XH;have t11:=s11.ext XH;have X:=Ext.refl H;clear s1 s2 s3 s4 s5 s6 s7 s8 s9 s10 s11 XA gA LA LH1 XH1 gH1;refine W.k3 1 2 3 λT=> ?_;refine W.loop (σ:=Nat) (λk tm h'=>Ext H h'/\tm.look 1= .ptr (some (h.next,0))/\tm.look 2= .ptr (some (H1.next,0))/\tm.look 3= .int .i64 (k:Int)/\k<=w.paths.length/\UpTo PathW.err w.paths k) (λk=>w.paths.length-k) ?_ (s:=0) ⟨X,rfl,rfl,rfl,Nat.zero_le _,UpTo.zero⟩;clear X;rintro k tm h' ⟨X,w1,w2,w3,hk,hu⟩;obtain⟨T,rfl⟩:=Tm.t3 w1 w2 w3;clear w1 w2 w3;have nX:=X.next;by_cases c1:k<w.paths.length
 ·repeat refine W.g ?_
  have ds:=DX.start ((XH.trans X).fr fr);repeat (first|refine W.gd ?_|refine W.e λr_ h_ ds_ s_=> ?_)
  refine W.dixF (t7.ext X) c1 rfl rfl rfl rfl rfl rfl rfl λi1 o1 L1=> ?_;repeat (first|refine W.gd ?_|refine W.e λr_ h_ ds_ s_=> ?_)
  refine W.dixF (t7.ext X) c1 rfl rfl rfl rfl rfl rfl rfl λi2 o2 L2=> ?_;repeat (first|refine W.gd ?_|refine W.e λr_ h_ ds_ s_=> ?_)
  refine W.dixF (t7.ext X) c1 rfl rfl rfl rfl rfl rfl rfl λi3 o3 L3=> ?_;repeat (first|refine W.gd ?_|refine W.e λr_ h_ ds_ s_=> ?_)
  refine W.dcallZ ds_ rfl rfl rfl rfl (rway_w _ _ _ (DZ.val (Ext.refl _) λq1 g1 d1 z1=> ?_));have X1:=d1.x;repeat refine W.gd ?_
  by_cases c2:wayErr w.paths[k].a w.paths[k].b w.paths[k].len=0
  ·repeat refine W.g ?_
   exact⟨k+1,lessN c1,X.trans X1,rfl,rfl,rfl,c1,hu.more c1 c2⟩
  ·repeat refine W.g ?_
   refine W.call rfl rfl rfl (rwrong_w _ _ _ λhe Xe=> ?_);rw[first_paths (UpTo.bad hu c1 (c2))]at q;have Xz:=(X.trans X1).trans Xe;have nXz:=Xz.next;repeat refine W.g ?_
   refine W.stn (vs:=[.int .i64 (wayErr w.paths[k].a w.paths[k].b w.paths[k].len),.int .i64 2,.int .i64 (k:Int)]) (cs':=[.int .i64 (wayErr w.paths[k].a w.paths[k].b w.paths[k].len),.int .i64 2,.int .i64 (k:Int)]) rfl rfl rfl rfl rfl rfl ((Xz.old H1.next (by omega)).trans gR) rfl λM nM gM kM=> ?_;repeat refine W.g ?_
   refine BodyQ.cell1 rfl rfl gM rfl rfl ?_;exact q _ (Ext.store (XH.trans Xz) nM kM (by omega) (by omega))
 repeat refine W.g ?_
 have e1:=UpTo.all hu c1;clear hu hk c1;refine W.k3 1 2 5 λT=> ?_;refine W.loop (σ:=Nat) (λk tm h'=>Ext H h'/\tm.look 1= .ptr (some (h.next,0))/\tm.look 2= .ptr (some (H1.next,0))/\tm.look 5= .int .i64 (k:Int)/\k<=w.doors.length/\UpTo (DoorW.err w.hz) w.doors k) (λk=>w.doors.length-k) ?_ (s:=0) ⟨X,rfl,rfl,rfl,Nat.zero_le _,UpTo.zero⟩;clear X;rintro k tm h' ⟨X,w1,w2,w5,hk,hu⟩;obtain⟨T,rfl⟩:=Tm.t3 w1 w2 w5;clear w1 w2 w5;have nX:=X.next;by_cases c1:k<w.doors.length
 ·repeat refine W.g ?_
  have ds:=DX.start ((XH.trans X).fr fr);repeat (first|refine W.gd ?_|refine W.e λr_ h_ ds_ s_=> ?_)
  refine W.dixF (t8.ext X) c1 rfl rfl rfl rfl rfl rfl rfl λi1 o1 L1=> ?_;repeat (first|refine W.gd ?_|refine W.e λr_ h_ ds_ s_=> ?_)
  refine W.dixF (t8.ext X) c1 rfl rfl rfl rfl rfl rfl rfl λi2 o2 L2=> ?_;repeat (first|refine W.gd ?_|refine W.e λr_ h_ ds_ s_=> ?_)
  refine W.dixF (t8.ext X) c1 rfl rfl rfl rfl rfl rfl rfl λi3 o3 L3=> ?_;repeat (first|refine W.gd ?_|refine W.e λr_ h_ ds_ s_=> ?_)
  refine W.dcallZ ds_ rfl rfl rfl rfl (rway_w _ _ _ (DZ.val (Ext.refl _) λq1 g1 d1 z1=> ?_));have X1:=d1.x;repeat refine W.gd ?_
  have de:DoorW.err w.hz w.doors[k]=if wayErr w.doors[k].a w.doors[k].b w.doors[k].len=0 then w.doors[k].times.err w.hz else wayErr w.doors[k].a w.doors[k].b w.doors[k].len:=rfl
  by_cases c2:wayErr w.doors[k].a w.doors[k].b w.doors[k].len=0
  ·rw[if_pos c2]at de
   refine W.k4 1 2 5 6 λT=> ?_;repeat refine W.g ?_
   clear ds ds_ d1;have ds:=DX.start ((XH.trans (X.trans X1)).fr fr);repeat (first|refine W.gd ?_|refine W.e λr_ h_ ds_ s_=> ?_)
   refine W.dixF (t8.ext (X.trans X1)) c1 rfl rfl rfl rfl rfl rfl rfl λi4 o4 L4=> ?_;repeat (first|refine W.gd ?_|refine W.e λr_ h_ ds_ s_=> ?_)
   refine W.dcallZ ds_ rfl rfl rfl rfl (rtimes_w w.doors[k].times w.hz (ds_.x.fr ((XH.trans (X.trans X1)).fr fr)) λg2 Y2=>DZ.val Y2 λq2 g3 d2 z2=> ?_);have X2:=d2.x;repeat refine W.gd ?_
   by_cases c3:w.doors[k].times.err w.hz=0
   ·repeat refine W.g ?_
    exact⟨k+1,lessN c1,(X.trans X1).trans X2,rfl,rfl,rfl,c1,hu.more c1 (de.trans c3)⟩
   ·repeat refine W.g ?_
    refine W.call rfl rfl rfl (rwrong_w _ _ _ λhe Xe=> ?_);rw[first_doors e1 (UpTo.bad hu c1 (λg=>c3 (de.symm.trans g)))]at q;rw[de]at q;have Xz:=((X.trans X1).trans X2).trans Xe;have nXz:=Xz.next;repeat refine W.g ?_
    refine W.stn (vs:=[.int .i64 (w.doors[k].times.err w.hz),.int .i64 3,.int .i64 (k:Int)]) (cs':=[.int .i64 (w.doors[k].times.err w.hz),.int .i64 3,.int .i64 (k:Int)]) rfl rfl rfl rfl rfl rfl ((Xz.old H1.next (by omega)).trans gR) rfl λM nM gM kM=> ?_;repeat refine W.g ?_
    refine BodyQ.cell1 rfl rfl gM rfl rfl ?_;exact q _ (Ext.store (XH.trans Xz) nM kM (by omega) (by omega))
  ·rw[if_neg c2]at de
   repeat refine W.g ?_
   refine W.call rfl rfl rfl (rwrong_w _ _ _ λhe Xe=> ?_);rw[first_doors e1 (UpTo.bad hu c1 (λg=>c2 (de.symm.trans g)))]at q;rw[de]at q;have Xz:=(X.trans X1).trans Xe;have nXz:=Xz.next;repeat refine W.g ?_
   refine W.stn (vs:=[.int .i64 (wayErr w.doors[k].a w.doors[k].b w.doors[k].len),.int .i64 3,.int .i64 (k:Int)]) (cs':=[.int .i64 (wayErr w.doors[k].a w.doors[k].b w.doors[k].len),.int .i64 3,.int .i64 (k:Int)]) rfl rfl rfl rfl rfl rfl ((Xz.old H1.next (by omega)).trans gR) rfl λM nM gM kM=> ?_;repeat refine W.g ?_
   refine BodyQ.cell1 rfl rfl gM rfl rfl ?_;exact q _ (Ext.store (XH.trans Xz) nM kM (by omega) (by omega))
 repeat refine W.g ?_
 have e2:=UpTo.all hu c1;clear hu hk c1;refine W.k3 1 2 7 λT=> ?_;refine W.loop (σ:=Nat) (λk tm h'=>Ext H h'/\tm.look 1= .ptr (some (h.next,0))/\tm.look 2= .ptr (some (H1.next,0))/\tm.look 7= .int .i64 (k:Int)/\k<=w.routes.length/\UpTo RouteW.err w.routes k) (λk=>w.routes.length-k) ?_ (s:=0) ⟨X,rfl,rfl,rfl,Nat.zero_le _,UpTo.zero⟩;clear X;rintro k tm h' ⟨X,w1,w2,w7,hk,hu⟩;obtain⟨T,rfl⟩:=Tm.t3 w1 w2 w7;clear w1 w2 w7;have nX:=X.next;by_cases c1:k<w.routes.length
 ·have hr:=hl _ (List.getElem_mem c1)
  repeat refine W.g ?_
  refine W.ixR (t9.ext X) c1 rfl rfl rfl rfl rfl rfl rfl λi1 o1 e L1 re=> ?_;have hlen:=Rp.len re;repeat refine W.g ?_
  refine W.call rfl rfl rfl (rroute_w re ((XH.trans X).fr fr) hr.1 hr.2.1 hr.2.2 λg1 X1=> ?_);by_cases c2:w.routes[k].err=0
  ·repeat refine W.g ?_
   exact⟨k+1,lessN c1,X.trans X1,rfl,rfl,rfl,c1,hu.more c1 c2⟩
  ·repeat refine W.g ?_
   refine W.call rfl rfl rfl (rwrong_w _ _ _ λhe Xe=> ?_);rw[first_routes e1 e2 (UpTo.bad hu c1 (c2))]at q;have Xz:=(X.trans X1).trans Xe;have nXz:=Xz.next;repeat refine W.g ?_
   refine W.stn (vs:=[.int .i64 w.routes[k].err,.int .i64 4,.int .i64 (k:Int)]) (cs':=[.int .i64 w.routes[k].err,.int .i64 4,.int .i64 (k:Int)]) rfl rfl rfl rfl rfl rfl ((Xz.old H1.next (by omega)).trans gR) rfl λM nM gM kM=> ?_;repeat refine W.g ?_
   refine BodyQ.cell1 rfl rfl gM rfl rfl ?_;exact q _ (Ext.store (XH.trans Xz) nM kM (by omega) (by omega))
 repeat refine W.g ?_
 have e3:=UpTo.all hu c1;clear hu hk c1;refine W.k3 1 2 9 λT=> ?_;refine W.loop (σ:=Nat) (λk tm h'=>Ext H h'/\tm.look 1= .ptr (some (h.next,0))/\tm.look 2= .ptr (some (H1.next,0))/\tm.look 9= .int .i64 (k:Int)/\k<=w.trips.length/\UpTo TripW.err w.trips k) (λk=>w.trips.length-k) ?_ (s:=0) ⟨X,rfl,rfl,rfl,Nat.zero_le _,UpTo.zero⟩;clear X;rintro k tm h' ⟨X,w1,w2,w9,hk,hu⟩;obtain⟨T,rfl⟩:=Tm.t3 w1 w2 w9;clear w1 w2 w9;have nX:=X.next;by_cases c1:k<w.trips.length
 ·have u10:=t10.ext X
  repeat refine W.g ?_
  refine W.iz λi_ o_ L_=> ?_;have te:TripW.err w.trips[k]=if w.trips[k].route<0 then 5 else if w.trips[k].untl<w.trips[k].frm then 2 else 0:=rfl
  by_cases c2:w.trips[k].route<0
  ·rw[if_pos c2]at te
   repeat (first|refine W.g ?_|refine W.m λh_ X_ n_ g_ L_=> ?_)
   refine W.call rfl rfl rfl (rwrong_w _ _ _ λhe Xe=> ?_);rw[first_trips e1 e2 e3 (UpTo.bad hu c1 (by rw[te];decide))]at q;rw[te]at q;have Xz:=(X.trans X_).trans Xe;have nXz:=Xz.next;repeat refine W.g ?_
   refine W.stn (vs:=[.int .i64 5,.int .i64 5,.int .i64 (k:Int)]) (cs':=[.int .i64 5,.int .i64 5,.int .i64 (k:Int)]) rfl rfl rfl rfl rfl rfl ((Xz.old H1.next (by omega)).trans gR) rfl λM nM gM kM=> ?_;repeat refine W.g ?_
   refine BodyQ.cell1 rfl rfl gM rfl rfl ?_;exact q _ (Ext.store (XH.trans Xz) nM kM (by omega) (by omega))
  ·rw[if_neg c2]at te
   by_cases c3:w.trips[k].untl<w.trips[k].frm
   ·rw[if_pos c3]at te
    repeat (first|refine W.g ?_|refine W.m λh_ X_ n_ g_ L_=> ?_)
    refine W.call rfl rfl rfl (rwrong_w _ _ _ λhe Xe=> ?_);rw[first_trips e1 e2 e3 (UpTo.bad hu c1 (by rw[te];decide))]at q;rw[te]at q;have Xz:=(X.trans X_).trans Xe;have nXz:=Xz.next;repeat refine W.g ?_
    refine W.stn (vs:=[.int .i64 2,.int .i64 5,.int .i64 (k:Int)]) (cs':=[.int .i64 2,.int .i64 5,.int .i64 (k:Int)]) rfl rfl rfl rfl rfl rfl ((Xz.old H1.next (by omega)).trans gR) rfl λM nM gM kM=> ?_;repeat refine W.g ?_
    refine BodyQ.cell1 rfl rfl gM rfl rfl ?_;exact q _ (Ext.store (XH.trans Xz) nM kM (by omega) (by omega))
   ·rw[if_neg c3]at te
    repeat (first|refine W.g ?_|refine W.m λh_ X_ n_ g_ L_=> ?_)
    exact⟨k+1,lessN c1,X.trans X_,rfl,rfl,rfl,c1,hu.more c1 te⟩
 repeat refine W.g ?_
 have e4:=UpTo.all hu c1;clear hu hk c1;refine W.k3 1 2 11 λT=> ?_;refine W.loop (σ:=Nat) (λk tm h'=>Ext H h'/\tm.look 1= .ptr (some (h.next,0))/\tm.look 2= .ptr (some (H1.next,0))/\tm.look 11= .int .i64 (k:Int)/\k<=w.hazards.length/\UpTo (HazW.err w.hz) w.hazards k) (λk=>w.hazards.length-k) ?_ (s:=0) ⟨X,rfl,rfl,rfl,Nat.zero_le _,UpTo.zero⟩;clear X;rintro k tm h' ⟨X,w1,w2,w11,hk,hu⟩;obtain⟨T,rfl⟩:=Tm.t3 w1 w2 w11;clear w1 w2 w11;have nX:=X.next;by_cases c1:k<w.hazards.length
 ·repeat refine W.g ?_
  have ds:=DX.start ((XH.trans X).fr fr);repeat (first|refine W.gd ?_|refine W.e λr_ h_ ds_ s_=> ?_)
  refine W.dixF (t11.ext X) c1 rfl rfl rfl rfl rfl rfl rfl λi1 o1 L1=> ?_;repeat (first|refine W.gd ?_|refine W.e λr_ h_ ds_ s_=> ?_)
  refine W.dcallZ ds_ rfl rfl rfl rfl (rtimes_w w.hazards[k].times w.hz (ds_.x.fr ((XH.trans X).fr fr)) λg2 Y2=>DZ.val Y2 λq2 g3 d2 z2=> ?_);have X2:=d2.x;repeat refine W.gd ?_
  have u11:=t11.ext (X.trans X2);repeat refine W.g ?_
  refine W.iz λi_ o_ L_=> ?_;have te:HazW.err w.hz w.hazards[k]=if w.hazards[k].on<0 then 5 else w.hazards[k].times.err w.hz:=rfl
  by_cases c2:w.hazards[k].on<0
  ·rw[if_pos c2]at te
   repeat refine W.g ?_
   refine W.call rfl rfl rfl (rwrong_w _ _ _ λhe Xe=> ?_);rw[first_hazards e1 e2 e3 e4 (UpTo.bad hu c1 (by rw[te];decide))]at q;rw[te]at q;have Xz:=(X.trans X2).trans Xe;have nXz:=Xz.next;repeat refine W.g ?_
   refine W.stn (vs:=[.int .i64 5,.int .i64 6,.int .i64 (k:Int)]) (cs':=[.int .i64 5,.int .i64 6,.int .i64 (k:Int)]) rfl rfl rfl rfl rfl rfl ((Xz.old H1.next (by omega)).trans gR) rfl λM nM gM kM=> ?_;repeat refine W.g ?_
   refine BodyQ.cell1 rfl rfl gM rfl rfl ?_;exact q _ (Ext.store (XH.trans Xz) nM kM (by omega) (by omega))
  ·rw[if_neg c2]at te
   by_cases c3:w.hazards[k].times.err w.hz=0
   ·repeat refine W.g ?_
    exact⟨k+1,lessN c1,X.trans X2,rfl,rfl,rfl,c1,hu.more c1 (te.trans c3)⟩
   ·repeat refine W.g ?_
    refine W.call rfl rfl rfl (rwrong_w _ _ _ λhe Xe=> ?_);rw[first_hazards e1 e2 e3 e4 (UpTo.bad hu c1 (λg=>c3 (te.symm.trans g)))]at q;rw[te]at q;have Xz:=(X.trans X2).trans Xe;have nXz:=Xz.next;repeat refine W.g ?_
    refine W.stn (vs:=[.int .i64 (w.hazards[k].times.err w.hz),.int .i64 6,.int .i64 (k:Int)]) (cs':=[.int .i64 (w.hazards[k].times.err w.hz),.int .i64 6,.int .i64 (k:Int)]) rfl rfl rfl rfl rfl rfl ((Xz.old H1.next (by omega)).trans gR) rfl λM nM gM kM=> ?_;repeat refine W.g ?_
    refine BodyQ.cell1 rfl rfl gM rfl rfl ?_;exact q _ (Ext.store (XH.trans Xz) nM kM (by omega) (by omega))
 repeat refine W.g ?_
 have e5:=UpTo.all hu c1;rw[first_none e1 e2 e3 e4 e5]at q;refine W.stn (vs:=[.int .i64 0,.int .i64 0,.int .i64 0]) (cs':=[.int .i64 0,.int .i64 0,.int .i64 0]) rfl rfl rfl rfl rfl rfl ((X.old H1.next (by omega)).trans gR) rfl λM nM gM kM=> ?_;repeat refine W.g ?_
 refine BodyQ.cell1 rfl rfl gM rfl rfl ?_;exact q _ (Ext.store (XH.trans X) nM kM (by omega) (by omega))
theorem num_names {x:SheetD}:x.num.names=x.names:=rfl
theorem dupIn_dups_err:∀{L:List (List Str)} {seen:List Str} {k:Int} {e:WrongD},dups seen L k=some e->e.err=6
 |[],_,_,_,h=>by cases h
 |l::L,seen,k,e,h=>by
  unfold dups at h;split at h
  ·cases h;rfl
  ·exact dupIn_dups_err h
theorem names_few {x:SheetD} (few:x.few):([x.names.stops,x.names.paths,x.names.doors,x.names.routes,x.names.trips,x.names.hazards]:List (List Str)).flatten.length<=1048576:=by
 obtain⟨f1,f2,f3,f4,f5,f6⟩:=few;simp only[SheetD.names,List.flatten_cons,List.flatten_nil,List.length_append,List.length_map,List.length_nil];omega
theorem num_routes {x:SheetD} (ok:∀r∈x.routes,r.ok):∀r∈x.num.routes,r.rides.length+1=r.stops.length/\r.stops.length<=1000/\∀s∈r.stops,-1<=s:=λr hr=>by
 obtain⟨a,ha,rfl⟩:=List.mem_map.1 hr;obtain⟨o1,o2,o3,o4⟩:=ok a ha;refine⟨by show a.rides.length+1=(a.stops.map _).length;rw[List.length_map];exact o3,by show(a.stops.map _).length<=1000;rw[List.length_map];omega,λs hs=> ?_⟩;obtain⟨b,_,rfl⟩:=List.mem_map.1 hs;exact place_ge _ _
theorem rmake_w {h:Heap} {tm:Tm} {Q:R->Prop} {cs:List CV} {x:SheetD} (r:Rp.R h cs x) (fr:Fresh h) (sm:x.slim) (q:∀h' c1,Ext h h'->Rp.R h' c1 x.make.1->Q (.val (.tup [.agg c1,.agg x.make.2.enc]) h')):W E1 (.call (.fn 52 [] []) [.agg cs]) tm h Q:=by
 have r0:=r;obtain⟨v1,v2,v3,v4,v5,v6,rfl,s1,s2,s3,s4,s5,s6⟩:=r;refine W.fn (s:=fnOf Tryz.f52) rfl rfl rfl rfl ?_;repeat (refine W.seq ?_)
 refine W.region ?_;refine W.box rfl rfl rfl λH1 X1 n1 g1 L1=> ?_;refine W.al rfl rfl rfl λH2 X2 n2 g2 L2=> ?_;refine W.al rfl rfl rfl λH3 X3 n3 g3 L3=> ?_;clear L2 L3;have g2:H3.get H1.next=some (.cells [.int .i64 0,.slice none 0 0 0,.slice none 0 0 0,.slice none 0 0 0,.slice none 0 0 0,.slice none 0 0 0,.slice none 0 0 0,.slice none 0 0 0,.slice none 0 0 0,.slice none 0 0 0,.slice none 0 0 0,.slice none 0 0 0] false):=(X3.old _ (by omega)).trans g2;have g3:H3.get H2.next=some (.cells [.int .i64 0,.int .i64 0,.int .i64 0] false):=g3;have X0:Ext h H3:=(X1.trans X2).trans X3;have L1:=(L1.ext X2).ext X3;clear g1;repeat refine W.g ?_
 refine W.call rfl rfl rfl (rsheetCheck_w (Rp.ext X0 r0) (X0.fr fr) sm λH4 X4=> ?_);refine W.k4 1 2 3 8 λT=> ?_;have g2:=(X4.old _ (by omega)).trans g2;have g3:=(X4.old _ (by omega)).trans g3;have Y4:=X0.trans X4;have nx4:=X4.next;have L1:=L1.ext X4;by_cases c:x.err=0
 rotate_left
 ·have em:x.make=(WorldD.none,⟨x.err,0,0⟩):=by unfold SheetD.make;rw[if_neg c]
  rw[em]at q;repeat refine W.g ?_
  refine W.call rfl rfl rfl (rwrong_w _ _ _ λH5 X5=> ?_);have nx5:=X5.next;repeat refine W.g ?_
  refine W.stn (vs:=[.int .i64 0,.slice none 0 0 0,.slice none 0 0 0,.slice none 0 0 0,.slice none 0 0 0,.slice none 0 0 0,.slice none 0 0 0,.slice none 0 0 0,.slice none 0 0 0,.slice none 0 0 0,.slice none 0 0 0,.slice none 0 0 0]) (cs':=[.int .i64 0,.slice none 0 0 0,.slice none 0 0 0,.slice none 0 0 0,.slice none 0 0 0,.slice none 0 0 0,.slice none 0 0 0,.slice none 0 0 0,.slice none 0 0 0,.slice none 0 0 0,.slice none 0 0 0,.slice none 0 0 0]) rfl rfl rfl rfl rfl rfl ((X5.old _ (by omega)).trans g2) rfl λM1 m1 gM1 kM1=> ?_;refine W.stn (vs:=[.int .i64 x.err,.int .i64 0,.int .i64 0]) (cs':=[.int .i64 x.err,.int .i64 0,.int .i64 0]) rfl rfl rfl rfl rfl rfl ((kM1 H2.next (by omega)).trans ((X5.old _ (by omega)).trans g3)) rfl λM2 m2 gM2 kM2=> ?_;repeat refine W.g ?_
  refine BodyQ.cell2 rfl rfl rfl ((kM2 H1.next (by omega)).trans gM1) gM2 rfl rfl rfl rfl ?_;exact q M2 _ (Ext.store (Ext.store (Y4.trans X5) m1 kM1 (by omega) (by omega)) m2 kM2 (by omega) (by omega)) ⟨_,_,_,_,_,_,_,_,_,_,_,rfl,Sl.nil,Sl.nil,Sl.nil,Sl.nil,Sl.nil,Sl.nil,Sl.nil,Sl.nil,Sl.nil,Sl.nil,Sl.nil⟩
 have ok:x.Ok:=SheetD.err_zero.1 c;repeat refine W.g ?_
 refine W.call rfl rfl rfl (rnumbered_w (Rp.ext Y4 r0) (Y4.fr fr) ok.1 sm λH5 e X5 r50=> ?_);have r5:=r50 H5 (Nat.le_refl _) λ_ _ _=>rfl;have r51:=r5;obtain⟨u1,u2,u3,u4,u5,u6,u7,u8,u9,u10,u11,rfl,t1,t2,t3,t4,t5,t6,t7,t8,t9,t10,t11⟩:=r5;refine W.k3 2 3 15 λT=> ?_;have nx5:=X5.next;repeat (first|refine W.g ?_|refine W.m λh_ X_ n_ g_ L_=> ?_)
 have Y5:Ext h h_:=(Y4.trans X5).trans X_;have nx6:=X_.next;have n5:h_.next=H5.next+1:=n_;have L5:LocE h_ H5.next 0 [.int .i64 x.hz,u1,u2,u3,u4,u5,u6,u7,u8,u9,u10,u11]:=L_;refine W.call rfl rfl rfl (rtwice_w (n:=x.names) (Rp.ext X_ (show Rp.R H5 [u1,u2,u3,u4,u5,u6] x.names from⟨_,_,_,_,_,_,rfl,t1,t2,t3,t4,t5,t6⟩)) (names_few ok.1) λH6 X6=> ?_);have nx7:=X6.next;have L5:=L5.ext X6;have g2:=(X6.old _ (by omega)).trans ((X_.old _ (by omega)).trans ((X5.old _ (by omega)).trans g2));have g3:=(X6.old _ (by omega)).trans ((X_.old _ (by omega)).trans ((X5.old _ (by omega)).trans g3));have r6:=Rp.ext X6 (Rp.ext X_ r51);have Y6:=Y5.trans X6;have Z5:=X_.trans X6;clear g_ L_ X_;refine W.k4 2 3 5 18 λT=> ?_;repeat (first|refine W.g ?_|refine W.m λh_ X_ n_ g_ L_=> ?_)
 obtain⟨b6,hb6⟩:∃b,b=H6.next:=⟨_,rfl⟩;rw[<-hb6]at g_ L_ ⊢;refine W.cutB (λtm' h2=>tm'.look 2= .ptr (some (H1.next,0))/\tm'.look 3= .ptr (some (H2.next,0))/\tm'.look 5= .ptr (some (H5.next,0))/\tm'.look 6= .ptr (some (b6,0))/\Ext H6 h2/\b6<h2.next/\h2.get b6=some (.cells x.num.wrong.enc false)) ?_ ?_
 ·have ew:=WorldD.wrong_eq x.num
  rw[num_names]at ew;rcases ht:x.names.twice with _|e
  ·rw[ht]at ew L_ g_
   have ew:x.num.wrong=x.num.first:=ew;have L6:LocE h_ b6 0 [.int .i64 0,.int .i64 0,.int .i64 0]:=L_;have g6:h_.get b6=some (.cells [.int .i64 0,.int .i64 0,.int .i64 0] false):=g_;repeat refine W.g ?_
   obtain⟨f1,f2,f3,f4,f5,f6⟩:=ok.1;refine W.call rfl rfl rfl (rfirst_w (w:=x.num) (Rp.ext X_ r6) ((Y6.trans X_).fr fr) (num_routes ok.2.2.2) (by show(x.paths.map _).length<=_;rw[List.length_map];omega) (by show(x.doors.map _).length<=_;rw[List.length_map];omega) (by show(x.routes.map _).length<=_;rw[List.length_map];omega) (by show(x.trips.map _).length<=_;rw[List.length_map];omega) (by show(x.hazards.map _).length<=_;rw[List.length_map];omega) λH7 X7=> ?_);have nx8:=X7.next;repeat refine W.g ?_
   refine W.stn (vs:=x.num.first.enc) (cs':=x.num.first.enc) rfl rfl rfl rfl rfl rfl ((X7.old _ (by omega)).trans g6) rfl λM nM gM kM=> ?_;repeat refine W.g ?_
   exact⟨rfl,rfl,rfl,rfl,Ext.store (X_.trans X7) nM kM (by omega) (by omega),by omega,by rw[ew];exact gM⟩
  ·have he:e.err=6:=dupIn_dups_err ht
   rw[ht]at ew L_ g_;have ew:x.num.wrong=e:=ew;have L6:LocE h_ b6 0 [.int .i64 e.err,.int .i64 e.kind,.int .i64 e.pos]:=L_;clear L_;have he2:((some e).getD Wrong0).err=6:=he;repeat refine W.g ?_
   exact⟨rfl,rfl,rfl,rfl,X_,by omega,by rw[ew];exact g_⟩
 clear L_ g_ X_ n_ n5;rintro tm' h2 ⟨w2,w3,w5,w6,Xc,l6,g6⟩;obtain⟨T,rfl⟩:=Tm.t4 w2 w3 w5 w6;clear w2 w3 w5 w6;have nxc:=Xc.next;have L5:=L5.ext Xc;have r7:=Rp.ext Xc r6;have g2:=(Xc.old _ (by omega)).trans g2;have g3:=(Xc.old _ (by omega)).trans g3;have Y7:=Y6.trans Xc;have Z5:=Z5.trans Xc;have nz5:=Z5.next;have L6:LocE h2 b6 0 [.int .i64 x.num.wrong.err,.int .i64 x.num.wrong.kind,.int .i64 x.num.wrong.pos]:=⟨_,_,g6,l6,rfl⟩;by_cases c2:x.num.wrong.err=0
 ·have em:x.make=(x.num,Wrong0):=by unfold SheetD.make;rw[if_pos c,if_pos c2]
  rw[em]at q;repeat refine W.g ?_
  refine W.stn (vs:=[.int .i64 x.num.hz,u1,u2,u3,u4,u5,u6,u7,u8,u9,u10,u11]) (cs':=[.int .i64 x.num.hz,u1,u2,u3,u4,u5,u6,u7,u8,u9,u10,u11]) rfl rfl rfl rfl rfl rfl g2 rfl λM1 m1 gM1 kM1=> ?_;refine W.stn (vs:=[.int .i64 0,.int .i64 0,.int .i64 0]) (cs':=[.int .i64 0,.int .i64 0,.int .i64 0]) rfl rfl rfl rfl rfl rfl ((kM1 H2.next (by omega)).trans g3) rfl λM2 m2 gM2 kM2=> ?_;repeat refine W.g ?_
  refine BodyQ.cell2 rfl rfl rfl ((kM2 H1.next (by omega)).trans gM1) gM2 rfl rfl rfl rfl ?_;refine q M2 _ (Ext.store (Ext.store Y7 m1 kM1 (by omega) (by omega)) m2 kM2 (by omega) (by omega)) (r50 M2 (by omega) λk a b=> ?_);rw[kM2 k (by omega),kM1 k (by omega)];exact Z5.old k b
 ·have em:x.make=(WorldD.none,x.num.wrong):=by unfold SheetD.make;rw[if_pos c,if_neg c2]
  rw[em]at q;repeat refine W.g ?_
  have dv:DV (λb=>b=b6) h2 [] [] []:=DV.start (λb hb=>by rw[hb];omega);try refine W.dv ?_
  refine W.ldVw dv rfl L6 rfl rfl rfl rfl rfl rfl λq1 G1 dv1 s1 L1'=> ?_;try refine W.dv ?_
  refine W.stV (vs:=[.int .i64 0,.slice none 0 0 0,.slice none 0 0 0,.slice none 0 0 0,.slice none 0 0 0,.slice none 0 0 0,.slice none 0 0 0,.slice none 0 0 0,.slice none 0 0 0,.slice none 0 0 0,.slice none 0 0 0,.slice none 0 0 0]) (cs':=[.int .i64 0,.slice none 0 0 0,.slice none 0 0 0,.slice none 0 0 0,.slice none 0 0 0,.slice none 0 0 0,.slice none 0 0 0,.slice none 0 0 0,.slice none 0 0 0,.slice none 0 0 0,.slice none 0 0 0,.slice none 0 0 0]) dv1 (by show ¬H1.next=b6;omega) rfl rfl rfl rfl rfl rfl rfl ((s1.get _).trans g2) rfl λq2 G2 hr2 s2=> ?_;try refine W.dv ?_
  have n1':=s1.next;have n2':G2.next=G1.next:=s2.next;have k2:∀k,k≠H1.next->G2.get k=G1.get k:=λk hk=>by rw[s2.get,Heap.get_put,if_neg (Ne.symm hk)]
  have gG2:G2.get H1.next=some (.cells [.int .i64 0,.slice none 0 0 0,.slice none 0 0 0,.slice none 0 0 0,.slice none 0 0 0,.slice none 0 0 0,.slice none 0 0 0,.slice none 0 0 0,.slice none 0 0 0,.slice none 0 0 0,.slice none 0 0 0,.slice none 0 0 0] false):=by rw[s2.get,put_same]
  refine W.dst (vs:=[.int .i64 x.num.wrong.err,.int .i64 x.num.wrong.kind,.int .i64 x.num.wrong.pos]) (cs':=[.int .i64 x.num.wrong.err,.int .i64 x.num.wrong.kind,.int .i64 x.num.wrong.pos]) hr2 rfl rfl rfl rfl rfl rfl rfl ((k2 H2.next (by omega)).trans ((s1.get _).trans g3)) rfl λq3 G3 hr3 s3=> ?_;try refine W.dv ?_
  have n3':G3.next=G2.next:=s3.next;have k3:∀k,k≠H2.next->G3.get k=G2.get k:=λk hk=>by rw[s3.get,Heap.get_put,if_neg (Ne.symm hk)]
  have gG3:G3.get H2.next=some (.cells [.int .i64 x.num.wrong.err,.int .i64 x.num.wrong.kind,.int .i64 x.num.wrong.pos] false):=by rw[s3.get,put_same]
  repeat refine W.g ?_
  refine BodyQ.cell2 rfl rfl rfl ((k3 H1.next (by omega)).trans gG2) gG3 rfl rfl rfl rfl ?_;exact q G3 _ (Ext.store (Ext.store (Y7.trans s1.ext) n2' k2 (by omega) (by omega)) n3' k3 (by omega) (by omega)) ⟨_,_,_,_,_,_,_,_,_,_,_,rfl,Sl.nil,Sl.nil,Sl.nil,Sl.nil,Sl.nil,Sl.nil,Sl.nil,Sl.nil,Sl.nil,Sl.nil,Sl.nil⟩
end
end Go.Proofs.YtfheibkikpefkaaGreatDoor
