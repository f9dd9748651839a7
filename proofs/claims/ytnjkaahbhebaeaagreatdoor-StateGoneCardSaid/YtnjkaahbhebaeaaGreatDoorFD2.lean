/- A run made later: by the program, by the document. No condition but that memory beyond the next number is empty and the run is not endless. -/
import Derived.Test.YtnjkaahbhebaeaaGreatDoorXU
import Derived.Test.YtnjkaahbhebaeaaGreatDoorXZ
import Derived.Test.YtnjkaahbhebaeaaGreatDoorEJ
import Derived.Test.YtnjkaahbhebaeaaGreatDoorZB
import Derived.Test.YtnjkaahbhebaeaaGreatDoorYF
set_option linter.unusedVariables false
set_option linter.unusedSimpArgs false
set_option maxRecDepth 100000
namespace Go.Proofs.YtnjkaahbhebaeaaGreatDoor
open Go Go.CM Go.CM.Tt
noncomputable section
set_option maxHeartbeats 16000000
theorem ownG2 {h:Heap} {lo z1 z2 n1 n2:Nat} {v1 v2:CV} {l1 l2:List (List CV)} {xs:List Nat} (o1:OwnR h lo z1 v1 l1) (o2:OwnR h lo z2 v2 l2) (i1:∀k∈idOf v1,n1<=k/\k<n2) (i2:∀k∈idOf v2,n2<=k) (hx:∀k∈xs,lo<=k/\k<n1) (nx:xs.Nodup) (h1:n1<=n2) (h2:n2<=h.next):
  OwnG h lo [(z1,v1,l1),(z2,v2,l2)] xs:=by
 refine⟨λr hr=> ?_,?_,λk hk=>⟨(hx k hk).1,by have:=(hx k hk).2;omega⟩⟩
 ·simp only[List.mem_cons,List.not_mem_nil,or_false]at hr
  rcases hr with rfl|rfl
  ·exact o1
  ·exact o2
 ·rw[show idsR [(z1,v1,l1),(z2,v2,l2)]++xs=idOf v1++(idOf v2++xs) by simp[idsR]]
  refine List.nodup_append.2 ⟨OwnR.idNodup _,List.nodup_append.2 ⟨OwnR.idNodup _,nx,λa ha b hb e=> ?_⟩,λa ha b hb e=> ?_⟩
  ·have:=i2 a ha
   have:=hx b hb
   omega
  ·rcases List.mem_append.1 hb with hb|hb
   ·have:=i1 a ha
    have:=i2 b hb
    omega
   ·have:=i1 a ha
    have:=hx b hb
    omega
/-- A cell of a row of one's own, turned. -/
theorem own_set {h M:Heap} {lo k bt:Nat} {y:CV} {L L':List (List CV)} {e:List CV} {A B:List RowE} {xs:List Nat} (O:OwnG h lo (A++(1,y,L)::B) xs) (hk:k<L.length) (he:e.length=1) (hL:L.set k e=L') (hi:idOf y=[bt]) (hb:lo<=bt) (nM:M.next=h.next) (gM:M.get bt=some (.cells (L.set k e).flatten false)) (kM:∀a,a≠bt->M.get a=h.get a):
  OwnG M lo (A++(1,y,L')::B) xs/\∀k∈xs,M.get k=h.get k:=by
 subst hL
 refine O.turn (by omega) (λa ha ho=>kM a (by
  rcases ho with ho|ho
  ·omega
  ·exact λe=>ho (by rw[hi,e]))) (OwnR.set (O.o (1,y,L) (by simp)) hk he nM hi gM) (.inl rfl)
theorem LaterO_w {h:Heap} {tm:Tm} {Q:R->Prop} {cs:List CV} {r:RunD} (rr:Rp.R h cs r) (fr:Fresh h) (hm:r.arr.length<=1048576) (hm2:r.dep.length<=1048576) (f d:Int)
  (q:∀h' cs',Ext h h'->Rp.R h' cs' (r.later f d).1->(∀k∈idsOf cs',h.next<=k)->Q (.val (.tup [.agg cs',.int .i64 (r.later f d).2]) h')):W E1 (.call (.fn 170 [] []) [.agg cs,.int .i64 f,.int .i64 d]) tm h Q:=by
 have r0:=rr
 obtain⟨vA,vD,rfl,s1,s2⟩:=rr
 refine W.fn (s:=fnOf Tryz.f170) rfl rfl rfl rfl ?_
 repeat (refine W.seq ?_)
 refine W.region ?_
 refine W.box rfl rfl rfl λH1 X1 n1 g1 L1=> ?_
 refine W.al rfl rfl rfl λH2 X2 n2 g2 L2=> ?_
 have g6:H2.get H1.next=some (.cells [.int .i64 0,.int .i64 0,.slice none 0 0 0,.slice none 0 0 0] false):=g2
 have L1:=L1.ext X2
 have XK:=X1.trans X2
 have g1:H2.get h.next=some (.cells [.int .i64 r.trip,.int .i64 r.no,vA,vD] false):=(X2.old _ (by omega)).trans g1
 clear L2 g2
 obtain⟨b6,hb6⟩:∃b,b=H1.next:=⟨_,rfl⟩
 rw[<-hb6]at g6 ⊢
 have l6:b6<H2.next:=by omega
 have l60:h.next<b6:=by omega
 have bad:∀{M:Heap} {e:Int},Ext h M->r.later f d=(RunD.none,e)->Q (.val (.tup [.agg [.int .i64 0,.int .i64 0,.slice none 0 0 0,.slice none 0 0 0],.int .i64 e]) M):=λXM e=>by
  have:=q _ [.int .i64 0,.int .i64 0,.slice none 0 0 0,.slice none 0 0 0] XM (by rw[e];exact⟨_,_,rfl,Sl.nil,Sl.nil⟩) (λk hk=>by cases hk)
  rw[e]at this
  exact this
 repeat (first|refine W.g ?_|refine W.m λh_ X_ n_ g_ L_=> ?_|refine W.n λh_ X_ n_ g_ S_=> ?_)
 refine W.call rfl rfl rfl (times_w (Rp.ext XK r0) (XK.fr fr) (by omega) λH3 b X3 hb=> ?_)
 have g6:=(X3.old b6 l6).trans g6
 have g1:=(X3.old h.next (by omega)).trans g1
 have L1:=L1.ext X3
 have Y3:=XK.trans X3
 have nX3:=X3.next
 refine W.k6 1 2 3 6 7 11 λT=> ?_
 by_cases cb:¬r.timesOk\/f<0\/(r.arr.length:Int)-1<=f\/d<0
 ·have e:=RunD.later_bad cb
  rcases(show b=false\/(b=true/\(f<0\/(¬f<0/\(r.arr.length:Int)-1<=f)\/(¬f<0/\¬(r.arr.length:Int)-1<=f/\d<0)))from by
   cases b
   ·exact .inl rfl
   ·have t:=hb.1 rfl
    rcases cb with c|c|c|c
    ·exact absurd t c
    all_goals exact .inr ⟨rfl,by omega⟩)with rfl|⟨rfl,c|⟨c,c2⟩|⟨c,c2,c3⟩⟩
  all_goals
   repeat (first|refine W.g ?_|refine W.m λh_ X_ n_ g_ L_=> ?_|refine W.n λh_ X_ n_ g_ S_=> ?_)
   refine W.stn (vs:=[.int .i64 0,.int .i64 0,.slice none 0 0 0,.slice none 0 0 0]) (cs':=[.int .i64 0,.int .i64 0,.slice none 0 0 0,.slice none 0 0 0]) rfl rfl rfl rfl rfl rfl g6 rfl λM nM gM kM=> ?_
   repeat (first|refine W.g ?_|refine W.m λh_ X_ n_ g_ L_=> ?_|refine W.n λh_ X_ n_ g_ S_=> ?_)
   refine BodyQ.cellE rfl rfl rfl gM rfl rfl ?_
   exact bad (Ext.store Y3 nM kM (by omega) (by omega)) e
 have tok:=Classical.not_not.1 λh=>cb (.inl h)
 have hbt:=hb.2 tok
 subst hbt
 clear hb
 have c1:¬f<0:=λh=>cb (.inr (.inl h))
 have c2:¬(r.arr.length:Int)-1<=f:=λh=>cb (.inr (.inr (.inl h)))
 have c3:¬d<0:=λh=>cb (.inr (.inr (.inr h)))
 obtain⟨n,hn⟩:∃n,r.arr.length=n+1:=⟨r.arr.length-1,by have:=tok.1;omega⟩
 have hn1:r.arr.length-1=n:=by omega
 have end1:=tok.2.2.2.2.2.1
 have end0:=(tok.lim (k:=n) (by omega)).1
 have hdl:=tok.2.1
 rw[hn1]at end1
 obtain⟨e0,he0⟩:∃e,e=r.arr.getD n 0:=⟨_,rfl⟩
 rw[<-he0]at end1 end0
 repeat (first|refine W.g ?_|refine W.m λh_ X_ n_ g_ L_=> ?_|refine W.n λh_ X_ n_ g_ S_=> ?_)
 refine W.call rfl rfl rfl (end_w (t0:=r.trip) (n0:=r.no) (arr:=r.arr) (dep:=r.dep) (n:=n) hn (by omega) (Rp.ext Y3 r0) λH4 X4=> ?_)
 rw[<-he0]
 have g6:=(X4.old b6 (by omega)).trans g6
 have g1:=(X4.old h.next (by omega)).trans g1
 have L1:=L1.ext X4
 have Y4:=Y3.trans X4
 have nX4:=X4.next
 refine W.k7 1 2 3 6 7 31 33 λT=> ?_
 by_cases c4:1099511627776-e0<d
 ·repeat (first|refine W.g ?_|refine W.m λh_ X_ n_ g_ L_=> ?_|refine W.n λh_ X_ n_ g_ S_=> ?_)
  refine W.stn (vs:=[.int .i64 0,.int .i64 0,.slice none 0 0 0,.slice none 0 0 0]) (cs':=[.int .i64 0,.int .i64 0,.slice none 0 0 0,.slice none 0 0 0]) rfl rfl rfl rfl rfl rfl g6 rfl λM nM gM kM=> ?_
  repeat (first|refine W.g ?_|refine W.m λh_ X_ n_ g_ L_=> ?_|refine W.n λh_ X_ n_ g_ S_=> ?_)
  refine BodyQ.cellE rfl rfl rfl gM rfl rfl ?_
  exact bad (Ext.store Y4 nM kM (by omega) (by omega)) (RunD.later_far cb (by rw[hn1,<-he0];exact c4))
 have hres:=RunD.later_ok cb (by rw[hn1,<-he0];exact c4)
 obtain⟨fn,hfn⟩:∃fn:Nat,f=(fn:Int):=⟨f.toNat,by omega⟩
 subst hfn
 rw[Int.toNat_natCast]at hres
 rw[hres]at q
 repeat (first|refine W.g ?_|refine W.m λh_ X_ n_ g_ L_=> ?_|refine W.n λh_ X_ n_ g_ S_=> ?_)
 refine W.k5 1 2 3 6 7 λT=> ?_
 have ds:=DX.start (Y4.fr fr)
 repeat (first|refine W.gd ?_|refine W.e λr_ h_ ds_ s_=> ?_)
 have m1:=ds_.x.next
 obtain⟨N1,hN1⟩:∃N,N=h_.next:=⟨_,rfl⟩
 rw[<-hN1]at m1
 refine W.dcallZ ds_ rfl rfl rfl rfl (clone_int (s1.ext (Y4.trans ds_.x)) (by omega) λp1 y1 U1 R1=>DZ.val U1 λq1 p1' ds1 t1=> ?_)
 rw[<-hN1]at R1
 have i1:=OwnR.ids R1
 have j1:=U1.next
 rw[<-hN1]at j1
 have k1:=t1.next
 have R1:=R1.ext t1.ext
 obtain⟨a1,a2,a3,a4,ee1⟩:=R1.form
 have hc1:y1.cells=some [y1]:=by rw[ee1];rfl
 clear ds_ ds
 repeat (first|refine W.gd ?_|refine W.e λr_ h_ ds_ s_=> ?_)
 have R1:=R1.ext s_.ext
 have m2:=ds_.x.next
 obtain⟨N2,hN2⟩:∃N,N=h_.next:=⟨_,rfl⟩
 rw[<-hN2]at m2
 have k2:=s_.next
 rw[<-hN2]at k2
 refine W.dcallZ ds_ rfl rfl rfl rfl (clone_int (s2.ext (Y4.trans ds_.x)) (by omega) λp2 y2 U2 R2=>DZ.val U2 λq2 p2' ds2 t2=> ?_)
 rw[<-hN2]at R2
 have i2:=OwnR.ids R2
 have j2:=U2.next
 rw[<-hN2]at j2
 have k3:=t2.next
 have R1:=(R1.ext U2).ext t2.ext
 have R2:=R2.ext t2.ext
 obtain⟨a5,a6,a7,a8,ee2⟩:=R2.form
 have hc2:y2.cells=some [y2]:=by rw[ee2];rfl
 clear ds_ ds1
 rw[ee1,ee2]
 repeat (first|refine W.gd ?_|refine W.e λr_ h_ ds_ s_=> ?_)
 rw[<-ee1,<-ee2]
 have X5:=ds2.x
 have nX5:=X5.next
 refine W.dst (vs:=[y1]) (cs':=[.int .i64 r.trip,.int .i64 r.no,y1,vD]) ds2.hri rfl rfl rfl rfl hc1 rfl rfl ((X5.old _ (by omega)).trans g1) rfl λr5 J hr5 s5=> ?_
 have gJ:J.get h.next=some (.cells [.int .i64 r.trip,.int .i64 r.no,y1,vD] false):=by rw[s5.get,put_same]
 have kJ:∀k,k≠h.next->J.get k=p2'.get k:=λk hk=>by rw[s5.get,Heap.get_put,if_neg (Ne.symm hk)]
 have nJ:J.next=p2'.next:=s5.next
 rw[ee1,ee2]
 repeat (first|refine W.gd ?_|refine W.e λr_ h_ ds_ s_=> ?_)
 rw[<-ee1,<-ee2]
 refine W.dst (vs:=[y2]) (cs':=[.int .i64 r.trip,.int .i64 r.no,y1,y2]) hr5 rfl rfl rfl rfl hc2 rfl rfl gJ rfl λr6 K hr6 s6=> ?_
 have gK:K.get h.next=some (.cells [.int .i64 r.trip,.int .i64 r.no,y1,y2] false):=by rw[s6.get,put_same]
 have kK:∀k,k≠h.next->K.get k=p2'.get k:=λk hk=>by rw[s6.get,Heap.get_put,if_neg (Ne.symm hk)];exact kJ k hk
 have nK:K.next=p2'.next:=s6.next.trans nJ
 repeat (first|refine W.gd ?_|refine W.e λr_ h_ ds_ s_=> ?_)
 repeat (first|refine W.g ?_|refine W.m λh_ X_ n_ g_ L_=> ?_|refine W.n λh_ X_ n_ g_ S_=> ?_)
 have gK6:=(kK b6 (by omega)).trans ((X5.old b6 (by omega)).trans g6)
 have XK5:Ext h K:=Ext.store (Y4.trans X5) nK kK (Nat.le_refl _) (by omega)
 have OK:OwnG K h.next [(1,y1,(upA fn d fn r.arr).map Flat.enc),(1,y2,(upD fn d fn r.dep).map Flat.enc)] [b6,h.next]:=by
  rw[upA_start,upD_start]
  exact ownG2 (n1:=N1) (n2:=N2) ((R1.other (by omega) λk h1 _ _=>kK k (by omega)).low (by omega)) ((R2.other (by omega) λk h1 _ _=>kK k (by omega)).low (by omega)) (λk hk=>by have:=i1 k hk;omega) (λk hk=>(i2 k hk).1) (λk hk=>by
   simp only[List.mem_cons,List.not_mem_nil,or_false]at hk
   omega) (by simp;omega) (by omega) (by omega)
 clear ds2 R1 R2 s5 s6 gJ kJ g1 g6 hr5 hr6 kK X5 L1
 refine W.k6 1 2 3 6 7 8 λT=> ?_
 refine W.loop (σ:=Nat) (λk tm h'=>Ext h h'/\OwnG h' h.next [(1,y1,(upA fn d k r.arr).map Flat.enc),(1,y2,(upD fn d k r.dep).map Flat.enc)] [b6,h.next]/\h'.get h.next=some (.cells [.int .i64 r.trip,.int .i64 r.no,y1,y2] false)/\h'.get b6=some (.cells [.int .i64 0,.int .i64 0,.slice none 0 0 0,.slice none 0 0 0] false)/\tm.look 1= .int .i64 (fn:Int)/\tm.look 2= .int .i64 d/\tm.look 3= .ptr (some (h.next,0))/\tm.look 6= .ptr (some (b6,0))/\tm.look 8= .int .i64 (k:Int)/\fn<=k/\k<=r.dep.length) (λk=>r.dep.length-k) ?_ (s:=fn)
  ⟨XK5,OK,gK,gK6,rfl,rfl,rfl,rfl,rfl,Nat.le_refl _,by omega⟩
 clear OK gK gK6 XK5
 rintro k tm h' ⟨X,O,gb,g6,w1,w2,w3,w6,w8,k1,k2⟩
 obtain⟨T,rfl⟩:=Tm.t5 w1 w2 w3 w6 w8
 clear w1 w2 w3 w6 w8
 have ltb:=(O.x h.next (by simp)).2
 have lt6:=(O.x b6 (by simp)).2
 have Lb:LocE h' h.next 0 [.int .i64 r.trip,.int .i64 r.no,y1,y2]:=⟨_,_,gb,ltb,rfl⟩
 have SD:Sl h' y2 (upD fn d k r.dep):=(O.o (1,y2,(upD fn d k r.dep).map Flat.enc) (by simp)).toSl (α:=Int)
 have ud:(upD fn d k r.dep).length=r.dep.length:=upD_len
 by_cases e1:k<r.dep.length
 ·have ea:k<r.arr.length:=by omega
  have lim:=tok.lim (k:=k) ea
  rw[hn1,<-he0]at lim
  obtain⟨bt,ct,xt,ev,hi1,hi2,hi3,hi4,hi5⟩:=OwnR.at (O.o (1,y2,(upD fn d k r.dep).map Flat.enc) (by simp)) (j:=k) (by rw[List.length_map,upD_len];exact e1)
  rw[List.length_map,upD_len]at ev
  have hel:=upD_enc (f:=fn) (d:=d) e1
  have Lel:LocE h' bt (0+k*1) [.int .i64 (r.dep.getD k 0)]:=⟨_,_,hi4,hi2,flat_cut hi5 hel⟩
  repeat (first|refine W.g ?_|refine W.m λh_ X_ n_ g_ L_=> ?_|refine W.n λh_ X_ n_ g_ S_=> ?_)
  refine W.ix rfl rfl ev rfl rfl rfl rfl (place_of (j:=k) rfl e1) ?_
  repeat (first|refine W.g ?_|refine W.m λh_ X_ n_ g_ L_=> ?_|refine W.n λh_ X_ n_ g_ S_=> ?_)
  refine W.ix rfl rfl ev rfl rfl rfl rfl (place_of (j:=k) rfl e1) ?_
  repeat (first|refine W.g ?_|refine W.m λh_ X_ n_ g_ L_=> ?_|refine W.n λh_ X_ n_ g_ S_=> ?_)
  refine W.stn (vs:=[.int .i64 (r.dep.getD k 0+d)]) (cs':=(((upD fn d k r.dep).map Flat.enc).set k (([.int .i64 (r.dep.getD k 0)]:List CV).set 0 (.int .i64 (r.dep.getD k 0+d)))).flatten) rfl rfl rfl rfl rfl rfl hi4 (flat_setAt (f:=0) hi5 (Nat.lt_succ_self 0) hel) λM nM gM kM=> ?_
  obtain⟨O1,kx⟩:=own_set (A:=[(1,y1,(upA fn d k r.arr).map Flat.enc)]) (B:=[]) (e:=[.int .i64 (r.dep.getD k 0+d)]) O (by rw[List.length_map,upD_len];exact e1) rfl (upD_set e1 k1) hi3 hi1 nM gM kM
  have XM:=Ext.store X nM kM (by omega) (by omega)
  have gb1:=(kx h.next (by simp)).trans gb
  have g61:=(kx b6 (by simp)).trans g6
  have Lb1:LocE M h.next 0 [.int .i64 r.trip,.int .i64 r.no,y1,y2]:=⟨_,_,gb1,by omega,rfl⟩
  clear Lb Lel SD
  refine W.k5 1 2 3 6 8 λT=> ?_
  by_cases f1:fn<k\/(k=0/\fn=0)
  ·have cA:=f1
   rcases f1 with f1|⟨f1,f2⟩
   all_goals
    obtain⟨bu,cu,xu,ew,hj1,hj2,hj3,hj4,hj5⟩:=OwnR.at (O1.o (1,y1,(upA fn d k r.arr).map Flat.enc) (by simp)) (j:=k) (by rw[List.length_map,upA_len];exact ea)
    rw[List.length_map,upA_len]at ew
    have hel2:=upA_enc (f:=fn) (d:=d) ea
    have Lem:LocE M bu (0+k*1) [.int .i64 (r.arr.getD k 0)]:=⟨_,_,hj4,hj2,flat_cut hj5 hel2⟩
    repeat (first|refine W.g ?_|refine W.m λh_ X_ n_ g_ L_=> ?_|refine W.n λh_ X_ n_ g_ S_=> ?_)
    refine W.ix rfl rfl ew rfl rfl rfl rfl (place_of (j:=k) rfl ea) ?_
    repeat (first|refine W.g ?_|refine W.m λh_ X_ n_ g_ L_=> ?_|refine W.n λh_ X_ n_ g_ S_=> ?_)
    refine W.ix rfl rfl ew rfl rfl rfl rfl (place_of (j:=k) rfl ea) ?_
    repeat (first|refine W.g ?_|refine W.m λh_ X_ n_ g_ L_=> ?_|refine W.n λh_ X_ n_ g_ S_=> ?_)
    refine W.stn (vs:=[.int .i64 (r.arr.getD k 0+d)]) (cs':=(((upA fn d k r.arr).map Flat.enc).set k (([.int .i64 (r.arr.getD k 0)]:List CV).set 0 (.int .i64 (r.arr.getD k 0+d)))).flatten) rfl rfl rfl rfl rfl rfl hj4 (flat_setAt (f:=0) hj5 (Nat.lt_succ_self 0) hel2) λM2 nM2 gM2 kM2=> ?_
    obtain⟨O2,kx2⟩:=own_set (A:=[]) (e:=[.int .i64 (r.arr.getD k 0+d)]) O1 (by rw[List.length_map,upA_len];exact ea) rfl (upA_set ea cA) hj3 hj1 nM2 gM2 kM2
    have XM2:=Ext.store XM nM2 kM2 (by omega) (by omega)
    repeat (first|refine W.g ?_|refine W.m λh_ X_ n_ g_ L_=> ?_|refine W.n λh_ X_ n_ g_ S_=> ?_)
    exact⟨k+1,lessN e1,XM2,O2,(kx2 h.next (by simp)).trans gb1,(kx2 b6 (by simp)).trans g61,rfl,rfl,rfl,rfl,rfl,by omega,e1⟩
  ·repeat (first|refine W.g ?_|refine W.m λh_ X_ n_ g_ L_=> ?_|refine W.n λh_ X_ n_ g_ S_=> ?_)
   exact⟨k+1,lessN e1,XM,by rw[upA_same (by omega)];exact O1,gb1,g61,rfl,rfl,rfl,rfl,rfl,by omega,e1⟩
 ·have ek:k=r.dep.length:=by omega
  have eq1:upA fn d k r.arr=laterA fn d r.arr:=by rw[ek,hdl];exact upA_end
  have eq2:upD fn d k r.dep=laterD fn d r.dep:=by rw[ek];exact upD_end
  repeat (first|refine W.g ?_|refine W.m λh_ X_ n_ g_ L_=> ?_|refine W.n λh_ X_ n_ g_ S_=> ?_)
  refine W.stn (vs:=[.int .i64 r.trip,.int .i64 r.no,y1,y2]) (cs':=[.int .i64 r.trip,.int .i64 r.no,y1,y2]) rfl rfl rfl rfl rfl rfl g6 rfl λM nM gM kM=> ?_
  repeat (first|refine W.g ?_|refine W.m λh_ X_ n_ g_ L_=> ?_|refine W.n λh_ X_ n_ g_ S_=> ?_)
  refine BodyQ.cellE rfl rfl rfl gM rfl rfl ?_
  rw[eq1,eq2]at O
  have OM:=(O.put nM kM).1
  exact q M _ (Ext.store X nM kM (by omega) (by omega)) ⟨y1,y2,rfl,(OM.o (1,y1,(laterA fn d r.arr).map Flat.enc) (by simp)).toSl (α:=Int),(OM.o (1,y2,(laterD fn d r.dep).map Flat.enc) (by simp)).toSl (α:=Int)⟩ (λa ha=>by
   have ha:a∈idOf y1++(idOf y2++[]):=ha
   rw[List.append_nil]at ha
   rcases List.mem_append.1 ha with ha|ha
   ·exact(OwnR.ids (OM.o (1,y1,(laterA fn d r.arr).map Flat.enc) (by simp)) a ha).1
   ·exact(OwnR.ids (OM.o (1,y2,(laterD fn d r.dep).map Flat.enc) (by simp)) a ha).1)
end
end Go.Proofs.YtnjkaahbhebaeaaGreatDoor
