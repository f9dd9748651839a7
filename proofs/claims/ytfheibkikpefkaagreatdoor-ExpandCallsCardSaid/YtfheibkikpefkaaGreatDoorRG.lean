/- The document's answer: names told twice, the first thing that does not hold. No condition but that memory beyond the next number is empty. -/
import Derived.Test.YtfheibkikpefkaaGreatDoorXU
import Derived.Test.YtfheibkikpefkaaGreatDoorYO
import Derived.Test.YtfheibkikpefkaaGreatDoorXZ
import Derived.Test.YtfheibkikpefkaaGreatDoorZB
set_option linter.unusedVariables false
set_option linter.unusedSimpArgs false
namespace Go.Proofs.YtfheibkikpefkaaGreatDoor
open Go Go.CM Go.CM.Tt
noncomputable section
set_option maxHeartbeats 16000000
theorem aKm {h:Heap} {tm:Tm} {Q:R->Prop} {cs:List CV} {r:RouteW} (rr:Rp.R h cs r) (fr:Fresh h) (hl:r.rides.length+1=r.stops.length) (hs:r.stops.length<=1000) (hge:∀s∈r.stops,-1<=s) (q:∀h',Ext h h'->Q (.val (.int .i64 r.err) h')):W E1 (.call (.fn 139 [] []) [.agg cs]) tm h Q:=by
 obtain⟨v1,v2,v3,rfl,s1,s2,s3⟩:=rr;refine W.fn (s:=aB Tryz.f139) rfl rfl rfl rfl ?_;repeat (refine W.seq ?_)
 refine W.region ?_;refine W.box rfl rfl rfl λH XH nH gH LH=> ?_;repeat refine W.g ?_
 have t1:=s1.ext XH;have t2:=s2.ext XH;refine mA 1 3 λT=> ?_;refine W.loop (σ:=Nat) (λk tm h'=>Ext H h'/\tm.look 1= .ptr (some (h.next,0))/\tm.look 3= .int .i64 (k:Int)/\k<=r.stops.length/\∀j a,j<k->r.stops[j]? =some a->0<=a) (λk=>r.stops.length-k) ?_ (s:=0) ⟨Ext.refl _,rfl,rfl,Nat.zero_le _,λj a hj=>by omega⟩;rintro k tm h' ⟨X,w1,w3,hk,hok⟩;obtain⟨T,rfl⟩:=aDp w1 w3;clear w1 w3;have u1:=t1.ext X;by_cases c1:k<r.stops.length
 ·repeat refine W.g ?_
  refine cH λi_ o_ L_=> ?_;by_cases c2:r.stops[k]<0
  ·repeat refine W.g ?_
   have:r.stops[k]= -1:=by have:=hge _ (List.getElem_mem c1);omega
   have e:r.err=5:=by unfold RouteW.err;rw[if_pos (by rw[<-this];exact List.getElem_mem c1)]
   rw[e]at q;exact q _ Ext.x
  ·repeat refine W.g ?_
   refine⟨k+1,aI c1,Ext.x,rfl,rfl,c1,λj a hj ha=> ?_⟩;by_cases e:j=k
   ·subst e
    rw[List.getElem?_eq_getElem c1]at ha;cases ha;omega
   ·exact hok j a (by omega) ha
 have hno:(-1:Int)∉r.stops:=λhm=>by
  obtain⟨j,hj⟩:=List.getElem?_of_mem hm;have h1:=(List.getElem?_eq_some_iff.1 hj).1;have:=hok j _ (by omega) hj;omega
 repeat refine W.g ?_
 clear hok hk c1 u1;refine mA 1 4 λT=> ?_;have gd:∀{l:List Int} {j:Nat} (h:j<l.length),l.getD j 0=l[j]:=λ{l j} h=>by rw[List.getD_eq_getElem?_getD,List.getElem?_eq_getElem h];rfl
 refine W.loop (σ:=Nat) (λk tm h'=>Ext h' h'/\Ext H h'/\tm.look 1= .ptr (some (h.next,0))/\tm.look 4= .int .i64 ((k+1:Nat):Int)/\k+1<=r.stops.length+1/\∀j,j<k->¬r.badAt j) (λk=>r.stops.length-k) ?_ (s:=0) ⟨Ext.refl _,X,rfl,rfl,by omega,λj hj=>by omega⟩;clear X;rintro k tm h' ⟨_,X,w1,w4,hk,hok⟩;obtain⟨T,rfl⟩:=aDp w1 w4;clear w1 w4;have u1:=t1.ext X;have u2:=t2.ext X;have hsub:((k+1:Nat):Int)-1=(k:Int):=by omega
 by_cases c1:k+1<r.stops.length
 ·have ck:k<r.stops.length:=by omega
  have cr:k<r.rides.length:=by omega
  repeat refine W.g ?_
  have ds:=aD ((XH.trans X).fr fr);repeat (first|refine aC ?_|refine W.e λr_ h_ ds_ s_=> ?_)
  refine aE u1 c1 rfl rfl rfl rfl rfl rfl rfl λi1 o1 L1=> ?_;repeat (first|refine aC ?_|refine W.e λr_ h_ ds_ s_=> ?_)
  rw[hsub];refine aE u1 ck rfl rfl rfl rfl rfl rfl rfl λi2 o2 L2=> ?_;repeat (first|refine aC ?_|refine W.e λr_ h_ ds_ s_=> ?_)
  have Xd:=ds_.x;have bad:r.badAt k->r.err=2:=λhb=>by unfold RouteW.err;rw[if_neg hno,if_pos ⟨k,cr,hb⟩]
  by_cases c2:r.stops[k+1]=r.stops[k]
  ·repeat refine aC ?_
   repeat refine W.g ?_
   rw[bad (.inr (by rw[gd ck,gd c1];exact c2.symm))]at q;exact q _ Ext.x
  ·repeat (first|refine aC ?_|refine W.e λr_ h_ ds_ s_=> ?_)
   rw[hsub];refine aE u2 cr rfl rfl rfl rfl rfl rfl rfl λi3 o3 L3=> ?_;repeat (first|refine aC ?_|refine W.e λr_ h_ ds_ s_=> ?_)
   have Xe:=ds_.x;by_cases c3:r.rides[k]<1
   ·repeat refine aC ?_
    repeat refine W.g ?_
    rw[bad (.inl (by rw[gd cr];exact c3))]at q;exact q _ Ext.x
   ·repeat refine aC ?_
    repeat refine W.g ?_
    refine⟨k+1,aI ck,Ext.refl _,Ext.x,rfl,rfl,by omega,λj hj=> ?_⟩;by_cases e:j=k
    ·subst e
     rintro(hb|hb)
     ·rw[gd cr]at hb;exact c3 hb
     ·rw[gd ck,gd c1]at hb;exact c2 hb.symm
    ·exact hok j (by omega)
 ·repeat refine W.g ?_
  have e:r.err=0:=by unfold RouteW.err;rw[if_neg hno,if_neg (λ⟨j,hj,hb⟩=>hok j (by omega) hb)]
  rw[e]at q;exact q _ Ext.x
theorem aKp {h:Heap} {tm:Tm} {Q:R->Prop} {cs:List CV} {n:NamesD} (r:Rp.R h cs n) (q:∀h' v,Ext h h'->Sl h' v [n.stops,n.paths,n.doors,n.routes,n.trips,n.hazards]->Q (.val v h')):W E1 (.call (.fn 136 [] []) [.agg cs]) tm h Q:=by
 obtain⟨v1,v2,v3,v4,v5,v6,rfl,s1,s2,s3,s4,s5,s6⟩:=r;refine W.fn (s:=aB Tryz.f136) rfl rfl rfl rfl ?_;repeat (refine W.seq ?_)
 refine W.region ?_;refine W.box rfl rfl rfl λH XH nH gH LH=> ?_;repeat refine W.g ?_
 have d1:=s1.cells;have d2:=s2.cells;have d3:=s3.cells;have d4:=s4.cells;have d5:=s5.cells;have d6:=s6.cells
 refine aTe (n:=6) (cs:=[v1,v2,v3,v4,v5,v6]) rfl rfl (by
  show yF H 6 6 (iT (λi=>some (i*1,1)) (rep [.slice none 0 0 0] 6) [(0,v1),(1,v2),(2,v3),(3,v4),(4,v5),(5,v6)])=_;simp only[iT,d1,d2,d3,d4,d5,d6];rfl) rfl λh_ X_ n_ g_ S_=> ?_
 repeat refine W.g ?_
 have X:=XH.trans X_;refine q _ _ X ⟨_,S_,rfl,λj cs d hc hd=> ?_⟩
 match j,hc,hd with
 |0,hc,hd=>cases hc;cases hd;exact⟨_,rfl,s1.ext X⟩
 |1,hc,hd=>cases hc;cases hd;exact⟨_,rfl,s2.ext X⟩
 |2,hc,hd=>cases hc;cases hd;exact⟨_,rfl,s3.ext X⟩
 |3,hc,hd=>cases hc;cases hd;exact⟨_,rfl,s4.ext X⟩
 |4,hc,hd=>cases hc;cases hd;exact⟨_,rfl,s5.ext X⟩
 |5,hc,hd=>cases hc;cases hd;exact⟨_,rfl,s6.ext X⟩
 |n+6,hc,hd=>cases hd
theorem aKl {h:Heap} {tm:Tm} {Q:R->Prop} {cs:List CV} {n:NamesD} (r:Rp.R h cs n) (few:([n.stops,n.paths,n.doors,n.routes,n.trips,n.hazards]:List (List Str)).flatten.length<=1048576) (q:∀h',Ext h h'->Q (.val (.agg (n.twice.getD jU).enc) h')):W E1 (.call (.fn 103 [] []) [.agg cs]) tm h Q:=by
 refine W.fn (s:=aB Tryz.f103) rfl rfl rfl rfl ?_;have r0:=r;obtain⟨v1,v2,v3,v4,v5,v6,rfl,s1,s2,s3,s4,s5,s6⟩:=r;repeat (refine W.seq ?_)
 refine W.region ?_;refine W.box rfl rfl rfl λH1 XH1 nH1 gH1 LH1=> ?_;repeat (first|refine W.g ?_|refine W.m λh_ X_ n_ g_ L_=> ?_)
 obtain⟨H,hH⟩:∃H,H=h_:=⟨_,rfl⟩;rw[<-hH]at X_ n_ g_ L_ ⊢;have XA:=X_;have nA:=n_;have gA:=g_;have LA:=L_;clear X_ n_ g_ L_ hH;have XH:Ext h H:=XH1.trans XA;have gR:H.get H1.next=some (.cells [.int .i64 0,.int .i64 0,.int .i64 0] false):=gA;refine W.call rfl rfl rfl (aKp (Rp.ext XH r0) λG v XG sl=> ?_);unfold NamesD.twice at q;obtain⟨L,hL⟩:∃L,L=[n.stops,n.paths,n.doors,n.routes,n.trips,n.hazards]:=⟨_,rfl⟩;rw[<-hL]at sl few q;have hl6:L.length=6:=by rw[hL];rfl
 have hpart:∀(k i:Nat) (l:List Str),L[k]? =some l->i<=l.length->((L.take k).flatten++l.take i).length<=1048576:=λk i l hk hi=>by
  have e:L.flatten=(L.take k).flatten++(l++(L.drop (k+1)).flatten):=by
   conv=>lhs;rw[<-List.take_append_drop k L,List.flatten_append]
   rw[List.drop_eq_getElem_cons (List.getElem?_eq_some_iff.1 hk).1,List.flatten_cons,(List.getElem?_eq_some_iff.1 hk).2]
  rw[e]at few;simp only[List.length_append,List.length_take]at few ⊢;omega
 clear hL;refine cD 2 3 8 λT=> ?_;repeat refine W.g ?_
 refine W.loop (σ:=Nat) (λk tm h'=>Ext G h'/\tm.look 2= .ptr (some (H1.next,0))/\tm.look 4=v/\tm.look 5= .int .i64 (k:Int)/\k<=L.length/\(∀n' l',n'<k->L[n']? =some l'->Tt.nY ((L.take n').flatten) l' l'.length)/\∃u:CV,tm.look 3=u/\OwnR h' G.next 1 u ((L.take k).flatten.map Flat.enc)) (λk=>L.length-k) ?_ (s:=0) ⟨Ext.x,rfl,rfl,rfl,Nat.zero_le _,λn' l' hn=>by omega,_,rfl,OwnR.nil⟩;rintro k tm h' ⟨X,w2,w4,w5,hk,hcl,u,w3,O⟩;obtain⟨pv,nv,cv,xv,e⟩:=O.form;cases e;obtain⟨T,rfl⟩:=cE w2 w3 w4 w5;clear w2 w3 w4 w5;by_cases c1:k<L.length
 ·have hkl:L[k]? =some L[k]:=List.getElem?_eq_getElem c1
  have hLk:L[k].length<=1048576:=by
   have:=hpart k L[k].length _ hkl (Nat.le_refl _);rw[List.length_append,List.take_length]at this;omega
  have e9:(L.take (k+1)).flatten=(L.take k).flatten++L[k]:=by
   rw[List.take_add_one,List.getElem?_eq_getElem c1,List.flatten_append];simp
  repeat refine W.g ?_
  refine W.loop (σ:=Nat) (λi tm h2=>Ext G h2/\tm.look 2= .ptr (some (H1.next,0))/\tm.look 4=v/\tm.look 5= .int .i64 (k:Int)/\tm.look 6= .int .i64 (i:Int)/\i<=L[k].length/\Tt.nY ((L.take k).flatten) L[k] i/\∃u:CV,tm.look 3=u/\OwnR h2 G.next 1 u (((L.take k).flatten++L[k].take i).map Flat.enc)) (λi=>L[k].length-i) ?_ (s:=0) ⟨X,rfl,rfl,rfl,rfl,Nat.zero_le _,λm a hm=>by omega,_,rfl,by rw[List.take_zero,List.append_nil];exact O⟩;clear O X;rintro i tm h2 ⟨X,w2,w4,w5,w6,hi,hci,u,w3,O⟩;obtain⟨pv,nv,cv,xv,e⟩:=O.form;cases e;obtain⟨T,rfl⟩:=bX w2 w3 w4 w5 w6;clear w2 w3 w4 w5 w6;have sl2:=sl.ext X;have nX:=X.next;have nXG:=XG.next;have hlen:=hpart k i _ hkl hi;repeat refine W.g ?_
  refine dI sl2 c1 rfl rfl rfl rfl rfl rfl rfl λi1 o1 e1 L1 re=> ?_;obtain⟨w,rfl,sw⟩:=re;by_cases c2:i<L[k].length
  ·repeat refine W.g ?_
   refine dI sl2 c1 rfl rfl rfl rfl rfl rfl rfl λi2 o2 e2 L2 re=> ?_;obtain⟨w',rfl,sw'⟩:=re;repeat refine W.g ?_
   refine cH λi_ o_ L_=> ?_;repeat refine W.g ?_
   refine W.call rfl rfl rfl (fM _ (bZ Flat.iff O.sl) (by omega) ?_);by_cases c3:0<=place ((L.take k).flatten++L[k].take i) L[k][i]
   ·repeat refine W.g ?_
    refine W.call rfl rfl rfl (eG _ _ _ λh3 X3=> ?_)
    have e:iU [] L 1=some ⟨6,(k:Int)+1,i⟩:=by
     rw[oO (L:=L) (seen:=[]) (k:=1) (n:=k) (l:=L[k]) (j:=i) (a:=L[k][i]) (λn' l' hn hl'=>by simpa using hcl n' l' hn hl') hkl (by simpa using hci) (List.getElem?_eq_getElem c2) (by simpa using jZ.1 c3),show(1:Int)+k=(k:Int)+1 by omega]
    rw[e]at q;repeat refine W.g ?_
    refine aK (vs:=[.int .i64 6,.int .i64 ((k:Int)+1),.int .i64 (i:Int)]) (cs':=[.int .i64 6,.int .i64 ((k:Int)+1),.int .i64 (i:Int)]) rfl rfl rfl rfl rfl rfl (((XG.trans (X.trans X3)).old H1.next (by omega)).trans gR) rfl λM nM gM kM=> ?_;repeat refine W.g ?_
    refine aJ rfl rfl gM rfl rfl ?_;have nX3:=X3.next;exact q _ (Ext.store (XH.trans (XG.trans (X.trans X3))) nM kM (by omega) (by omega))
   ·repeat refine W.g ?_
    refine dI sl2 c1 rfl rfl rfl rfl rfl rfl rfl λi4 o4 e4 L4 re=> ?_;obtain⟨w'',rfl,sw''⟩:=re;repeat refine W.g ?_
    refine cH λi_ o_ L_=> ?_;repeat (first|refine W.g ?_|refine W.n λh_ X_ n_ g_ S_=> ?_)
    have S_:SlG _ 1 _ (([L[k][i]]:List Str).map Flat.enc):=S_
    refine dK (H:=G) (z:=1) (X.trans X_) (O.ext X_) S_ rfl rfl rfl rfl rfl rfl rfl rfl rfl rfl rfl rfl (by
     rw[List.length_map];simp only[List.length_map,List.length_cons,List.length_nil];show _*16<=_;omega) λv' h3 X3 O3=> ?_
    obtain⟨pv,nv,cv,xv,e⟩:=O3.form;cases e;repeat refine W.g ?_
    refine⟨i+1,aI c2,X3,rfl,rfl,rfl,rfl,c2,λm a hm ha=> ?_,_,rfl,by rw[List.take_add_one,List.getElem?_eq_getElem c2,<-List.append_assoc,aX];exact O3⟩;by_cases e:m=i
    ·subst e
     rw[List.getElem?_eq_getElem c2]at ha;cases ha;exact λhm=>c3 (jZ.2 hm)
    ·exact hci m a (by omega) ha
  ·repeat refine W.g ?_
   have ei:i=L[k].length:=by omega
   rw[ei,List.take_length]at O;refine⟨k+1,aI c1,X,rfl,rfl,rfl,c1,λn' l' hn hl=> ?_,_,rfl,by rw[e9];exact O⟩;by_cases e:n'=k
   ·subst e
    rw[hkl]at hl;cases hl;rw[<-ei];exact hci
   ·exact hcl n' l' (by omega) hl
 ·have e:iU [] L 1=none:=aAr λn' l' hl=>by
    have:=(List.getElem?_eq_some_iff.1 hl).1;simpa using hcl n' l' (by omega) hl
  rw[e]at q;have nX:=X.next;have nXG:=XG.next;repeat refine W.g ?_
  refine aK (vs:=[.int .i64 0,.int .i64 0,.int .i64 0]) (cs':=[.int .i64 0,.int .i64 0,.int .i64 0]) rfl rfl rfl rfl rfl rfl (((XG.trans X).old H1.next (by omega)).trans gR) rfl λM nM gM kM=> ?_;repeat refine W.g ?_
  refine aJ rfl rfl gM rfl rfl ?_;exact q _ (Ext.store (XH.trans (XG.trans X)) nM kM (by omega) (by omega))
end
end Go.Proofs.YtfheibkikpefkaaGreatDoor
