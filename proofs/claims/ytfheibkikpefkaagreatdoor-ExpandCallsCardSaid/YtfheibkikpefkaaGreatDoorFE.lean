/- A run made later: by the document. No condition but that memory beyond the next number is empty and the run is not endless. -/
import Derived.Test.YtfheibkikpefkaaGreatDoorXU
import Derived.Test.YtfheibkikpefkaaGreatDoorXZ
import Derived.Test.YtfheibkikpefkaaGreatDoorFD
import Derived.Test.YtfheibkikpefkaaGreatDoorEL
import Derived.Test.YtfheibkikpefkaaGreatDoorEJ
set_option linter.unusedVariables false
set_option linter.unusedSimpArgs false
namespace Go.Proofs.YtfheibkikpefkaaGreatDoor
open Go Go.CM Go.CM.Tt
noncomputable section
set_option maxHeartbeats 16000000
theorem _root_.Go.CM.Tt.OwnG.swap {h:Heap} {lo a b:Nat} {rs:List RowE} (g:OwnG h lo rs [a,b]):OwnG h lo rs [b,a]:=by
 refine⟨g.o,(List.Perm.nodup_iff (List.Perm.append_left _ (List.Perm.swap b a []))).1 g.nd,λk hk=>g.x k ?_⟩;simp only[List.mem_cons,List.not_mem_nil,or_false]at hk ⊢;exact hk.symm
theorem aKv {h:Heap} {tm:Tm} {Q:R->Prop} {cs:List CV} {r:RunD} (rr:Rp.R h cs r) (fr:Fresh h) (hm:r.arr.length<=1048576) (hm2:r.dep.length<=1048576) (f d:Int)
  (q:∀h' cs',Ext h h'->Rp.R h' cs' (r.later f d).1->Q (.val (.tup [.agg cs',.int .i64 (r.later f d).2]) h')):W E1 (.call (.fn 24 [] []) [.agg cs,.int .i64 f,.int .i64 d]) tm h Q:=by
 have r0:=rr;obtain⟨vA,vD,rfl,s1,s2⟩:=rr;refine W.fn (s:=aB Tryz.f24) rfl rfl rfl rfl ?_;repeat (refine W.seq ?_)
 refine W.region ?_;refine W.box rfl rfl rfl λH1 X1 n1 g1 L1=> ?_;refine jV rfl rfl rfl λH2 X2 n2 g2 L2=> ?_;have g6:H2.get H1.next=some (.cells [.int .i64 0,.int .i64 0,.slice none 0 0 0,.slice none 0 0 0] false):=g2;have L1:=L1.ext X2;have XK:=X1.trans X2;have g1:H2.get h.next=some (.cells [.int .i64 r.trip,.int .i64 r.no,vA,vD] false):=(X2.old _ (by omega)).trans g1;clear L2 g2;obtain⟨b6,hb6⟩:∃b,b=H1.next:=⟨_,rfl⟩;rw[<-hb6]at g6 ⊢;have l6:b6<H2.next:=by omega
 have l60:h.next<b6:=by omega
 have bad:∀{M:Heap} {e:Int},Ext h M->r.later f d=(RunD.none,e)->Q (.val (.tup [.agg [.int .i64 0,.int .i64 0,.slice none 0 0 0,.slice none 0 0 0],.int .i64 e]) M):=λXM e=>by
  have:=q _ [.int .i64 0,.int .i64 0,.slice none 0 0 0,.slice none 0 0 0] XM (by rw[e];exact⟨_,_,rfl,Sl.nil,Sl.nil⟩);rw[e]at this;exact this
 repeat (first|refine W.g ?_|refine W.m λh_ X_ n_ g_ L_=> ?_|refine W.n λh_ X_ n_ g_ S_=> ?_)
 refine W.call rfl rfl rfl (aGi (Rp.ext XK r0) (XK.fr fr) (by omega) λH3 b X3 hb=> ?_);have g6:=(X3.old b6 l6).trans g6;have g1:=(X3.old h.next (by omega)).trans g1;have L1:=L1.ext X3;have Y3:=XK.trans X3;have nX3:=X3.next;refine eS 1 2 3 6 7 8 15 λT=> ?_;by_cases cb:¬r.timesOk\/f<0\/(r.arr.length:Int)-1<=f\/d<0
 ·have e:=nT cb
  rcases(show b=false\/(b=true/\(f<0\/(¬f<0/\(r.arr.length:Int)-1<=f)\/(¬f<0/\¬(r.arr.length:Int)-1<=f/\d<0)))from by
   cases b
   ·exact .inl rfl
   ·have t:=hb.1 rfl
    rcases cb with c|c|c|c
    ·exact absurd t c
    all_goals exact .inr ⟨rfl,by omega⟩)with rfl|⟨rfl,c|⟨c,c2⟩|⟨c,c2,c3⟩⟩
  all_goals
   repeat (first|refine W.g ?_|refine W.m λh_ X_ n_ g_ L_=> ?_|refine W.n λh_ X_ n_ g_ S_=> ?_)
   refine aK (vs:=[.int .i64 0,.int .i64 0,.slice none 0 0 0,.slice none 0 0 0]) (cs':=[.int .i64 0,.int .i64 0,.slice none 0 0 0,.slice none 0 0 0]) rfl rfl rfl rfl rfl rfl g6 rfl λM nM gM kM=> ?_;repeat (first|refine W.g ?_|refine W.m λh_ X_ n_ g_ L_=> ?_|refine W.n λh_ X_ n_ g_ S_=> ?_)
   refine aQ rfl rfl rfl gM rfl rfl ?_;exact bad (Ext.store Y3 nM kM (by omega) (by omega)) e
 have tok:=Classical.not_not.1 λh=>cb (.inl h);have hbt:=hb.2 tok;subst hbt;clear hb;have c1:¬f<0:=λh=>cb (.inr (.inl h));have c2:¬(r.arr.length:Int)-1<=f:=λh=>cb (.inr (.inr (.inl h)));have c3:¬d<0:=λh=>cb (.inr (.inr (.inr h)));obtain⟨n,hn⟩:∃n,r.arr.length=n+1:=⟨r.arr.length-1,by have:=tok.1;omega⟩;have hn1:r.arr.length-1=n:=by omega
 have end1:=tok.2.2.2.2.2.1;have end0:=(tok.lim (k:=n) (by omega)).1;have hdl:=tok.2.1;rw[hn1]at end1;obtain⟨e0,he0⟩:∃e,e=r.arr.getD n 0:=⟨_,rfl⟩;rw[<-he0]at end1 end0;repeat (first|refine W.g ?_|refine W.m λh_ X_ n_ g_ L_=> ?_|refine W.n λh_ X_ n_ g_ S_=> ?_)
 rw[show((r.arr.length:Int)-1)=(n:Int) by omega];refine eN s1 (j:=n) (by omega) rfl rfl rfl rfl rfl rfl rfl λiM1 oM1 M1=> ?_;replace M1:=show LocE h iM1 oM1 [.int .i64 e0]from by rw[he0,getI (by omega)];exact M1
 by_cases c4:1099511627776-e0<d
 ·repeat (first|refine W.g ?_|refine W.m λh_ X_ n_ g_ L_=> ?_|refine W.n λh_ X_ n_ g_ S_=> ?_)
  refine aK (vs:=[.int .i64 0,.int .i64 0,.slice none 0 0 0,.slice none 0 0 0]) (cs':=[.int .i64 0,.int .i64 0,.slice none 0 0 0,.slice none 0 0 0]) rfl rfl rfl rfl rfl rfl g6 rfl λM nM gM kM=> ?_;repeat (first|refine W.g ?_|refine W.m λh_ X_ n_ g_ L_=> ?_|refine W.n λh_ X_ n_ g_ S_=> ?_)
  refine aQ rfl rfl rfl gM rfl rfl ?_;exact bad (Ext.store Y3 nM kM (by omega) (by omega)) (nS cb (by rw[hn1,<-he0];exact c4))
 have hres:=pH cb (by rw[hn1,<-he0];exact c4);obtain⟨fn,hfn⟩:∃fn:Nat,f=(fn:Int):=⟨f.toNat,by omega⟩;subst hfn;rw[Int.toNat_natCast]at hres;rw[hres]at q;repeat (first|refine W.g ?_|refine W.m λh_ X_ n_ g_ L_=> ?_|refine W.n λh_ X_ n_ g_ S_=> ?_)
 refine fT 1 2 3 6 7 8 λT=> ?_;have dv:DV (λc=>c<H3.next) H3 [] [] []:=kU λb hb=>hb;have hb1:h.next<H3.next:=by omega
 try refine aP ?_
 refine iX (k:=0) dv hb1 L1 rfl rfl rfl rfl rfl rfl rfl λr1 ha dv sa Lz=> ?_;clear Lz;try refine aP ?_
 refine iX (k:=1) dv hb1 (L1.ext sa.ext) rfl rfl rfl rfl rfl rfl rfl λr2 hb dv sb Lz=> ?_;clear Lz;try refine aP ?_
 refine lU (v:= .slice (some (hb.next,0)) 0 0 0) dv rfl rfl rfl rfl λr3 hc dv xc nc gc=> ?_;have gc:hc.get hb.next=some (.cells [] false):=gc;have na:=sa.next;have nb:=sb.next;have Xc:=(sa.ext.trans sb.ext).trans xc;try refine aP ?_
 refine iX (k:=2) dv hb1 (L1.ext Xc) rfl rfl rfl rfl rfl rfl rfl λr4 hd dv sd Lz=> ?_;clear Lz;have gd:hd.get hb.next=some (.cells [] false):=(sd.get _).trans gc;have nd:=sd.next;have Xd:=Xc.trans sd.ext;try refine aP ?_
 refine wU (H:=H3) (z:=1) (l:=[]) (l2:=r.arr.map Flat.enc) dv Xd (.inr ⟨hb.next,0,false,rfl,by omega,by omega,gd,λe he=>(by cases he),.inl ⟨rfl,.inl rfl⟩⟩) ((aU Flat.iff s1).ext (Y3.trans Xd)) (λc hc hm=>by have:c=hb.next:=(by simpa[idOf]using hm);omega) rfl rfl rfl rfl rfl rfl rfl rfl rfl rfl rfl rfl rfl (by
  rw[List.length_map];show(0+_)*8<=_;omega) λr5 y1 he dv Xe be ne O1 _=> ?_
 rw[List.nil_append]at O1;have id1:=OwnR.ids O1;try refine aP ?_
 refine lU (v:= .slice (some (he.next,0)) 0 0 0) dv rfl rfl rfl rfl λr6 hf dv xf nf gf=> ?_;have gf:hf.get he.next=some (.cells [] false):=gf;try refine aP ?_
 refine iX (k:=3) dv hb1 (L1.ext (Xe.trans xf)) rfl rfl rfl rfl rfl rfl rfl λr7 hg dv sg Lz=> ?_;clear Lz;have gg:hg.get he.next=some (.cells [] false):=(sg.get _).trans gf;have ng:=sg.next;have Xg:=xf.trans sg.ext;try refine aP ?_
 refine wU (H:=he) (z:=1) (l:=[]) (l2:=r.dep.map Flat.enc) dv Xg (.inr ⟨he.next,0,false,rfl,by omega,by omega,gg,λe he=>(by cases he),.inl ⟨rfl,.inl rfl⟩⟩) ((aU Flat.iff s2).ext ((Y3.trans Xe).trans Xg)) (λc hc hm=>by have:c=he.next:=(by simpa[idOf]using hm);omega) rfl rfl rfl rfl rfl rfl rfl rfl rfl rfl rfl rfl rfl (by
  rw[List.length_map];show(0+_)*8<=_;omega) λr8 y2 hi dv Xi bi ni O2 _=> ?_
 rw[List.nil_append]at O2;have id2:=OwnR.ids O2;have nXe:=Xe.next;have nXi:=Xi.next;obtain⟨p1,m1',c1',x1',ev1⟩:=O1.form;obtain⟨p2,m2',c2',x2',ev2⟩:=O2.form;have hc1:y1.cells=some [y1]:=by rw[ev1];rfl
 have hc2:y2.cells=some [y2]:=by rw[ev2];rfl
 rw[ev1,ev2];try refine aP ?_
 refine lU (v:= .ptr (some (hi.next,0))) dv rfl rfl rfl rfl λr9 hj dv xj nj gj=> ?_;try refine aP ?_
 rw[<-ev1,<-ev2];obtain⟨c9,hc9⟩:∃c,c=hi.next:=⟨_,rfl⟩;rw[<-hc9]at gj ⊢;refine W.dst (vs:=[.int .i64 r.trip,.int .i64 r.no,y1,y2]) (cs':=[.int .i64 r.trip,.int .i64 r.no,y1,y2]) (λr hr=>(dv.d.r r hr).1) rfl rfl rfl rfl rfl rfl rfl gj rfl λq3 K hr3 s3=> ?_;try refine aP ?_
 have gK:K.get c9=some (.cells [.int .i64 r.trip,.int .i64 r.no,y1,y2] false):=by rw[s3.get,aG]
 have kK:∀k,k≠c9->K.get k=hj.get k:=λk hk=>by rw[s3.get,aA,if_neg (Ne.symm hk)]
 have nK:K.next=hj.next:=s3.next;have X3j:Ext H3 hj:=(Xe.trans Xi).trans xj;have nXj:=X3j.next;have gK6:=(kK b6 (by omega)).trans ((X3j.old b6 (by omega)).trans g6);have XK5:Ext h K:=Ext.store (Y3.trans X3j) nK kK (by omega) (by omega)
 have OK:OwnG K h.next [(1,y1,(qE fn d fn r.arr).map Flat.enc),(1,y2,(pL fn d fn r.dep).map Flat.enc)] [b6,c9]:=by
  rw[xM,xL]
  refine OwnG.swap ((((aSe (h:=hi) (lo:=h.next) (n1:=H3.next) (n2:=he.next) (xs:=[b6]) ((O1.ext Xi).low (by omega)) (O2.low (by omega)) (λk hk=>by have:=id1 k hk;omega) (λk hk=>(id2 k hk).1) (λk hk=>by
   rw[List.mem_singleton]at hk;omega) (by simp) (by omega) (by omega)).box xj (by omega) (by omega) (by omega)).put nK kK).1)
 clear dv gc gd gf gg gj O1 O2 s3 g1 g6 hr3 kK L1 be bi;repeat (first|refine W.g ?_|refine W.m λh_ X_ n_ g_ L_=> ?_|refine W.n λh_ X_ n_ g_ S_=> ?_)
 refine eS 1 2 6 7 8 9 10 λT=> ?_
 refine W.loop (σ:=Nat) (λk tm h'=>Ext h h'/\OwnG h' h.next [(1,y1,(qE fn d k r.arr).map Flat.enc),(1,y2,(pL fn d k r.dep).map Flat.enc)] [b6,c9]/\h'.get c9=some (.cells [.int .i64 r.trip,.int .i64 r.no,y1,y2] false)/\h'.get b6=some (.cells [.int .i64 0,.int .i64 0,.slice none 0 0 0,.slice none 0 0 0] false)/\tm.look 1= .int .i64 (fn:Int)/\tm.look 2= .int .i64 d/\tm.look 6= .ptr (some (b6,0))/\tm.look 8= .int .i64 (r.arr.length:Int)/\tm.look 9= .ptr (some (c9,0))/\tm.look 10= .int .i64 (k:Int)/\fn<=k/\k<=r.dep.length) (λk=>r.dep.length-k) ?_ (s:=fn)
  ⟨XK5,OK,gK,gK6,rfl,rfl,rfl,rfl,rfl,rfl,Nat.le_refl _,by omega⟩
 clear OK gK gK6 XK5;rintro k tm h' ⟨X,O,gb,g6,w1,w2,w6,w8,w9,w10,k1,k2⟩;obtain⟨T,rfl⟩:=pG w1 w2 w6 w8 w9 w10;clear w1 w2 w6 w8 w9 w10;have ltb:=(O.x c9 (by simp)).2;have lt6:=(O.x b6 (by simp)).2;have Lb:LocE h' c9 0 [.int .i64 r.trip,.int .i64 r.no,y1,y2]:=⟨_,_,gb,ltb,rfl⟩;have SD:Sl h' y2 (pL fn d k r.dep):=(O.o (1,y2,(pL fn d k r.dep).map Flat.enc) (by simp)).toSl (α:=Int);have ud:(pL fn d k r.dep).length=r.dep.length:=dD;by_cases e1:k<r.dep.length
 ·have ea:k<r.arr.length:=by omega
  have lim:=tok.lim (k:=k) ea;rw[hn1,<-he0]at lim;obtain⟨bt,ct,xt,ev,hi1,hi2,hi3,hi4,hi5⟩:=OwnR.at (O.o (1,y2,(pL fn d k r.dep).map Flat.enc) (by simp)) (j:=k) (by rw[List.length_map,dD];exact e1);rw[List.length_map,dD]at ev;have hel:=aGc (f:=fn) (d:=d) e1;have Lel:LocE h' bt (0+k*1) [.int .i64 (r.dep.getD k 0)]:=⟨_,_,hi4,hi2,dX hi5 hel⟩;repeat (first|refine W.g ?_|refine W.m λh_ X_ n_ g_ L_=> ?_|refine W.n λh_ X_ n_ g_ S_=> ?_)
  have ds:=aD (X.fr fr);repeat (first|refine aC ?_|refine W.e λr_ h_ ds_ s_=> ?_)
  refine iY rfl rfl ev rfl rfl rfl rfl (bE (j:=k) rfl e1) ?_;repeat (first|refine aC ?_|refine W.e λr_ h_ ds_ s_=> ?_)
  refine iY rfl rfl ev rfl rfl rfl rfl (bE (j:=k) rfl e1) ?_;repeat (first|refine aC ?_|refine W.e λr_ h_ ds_ s_=> ?_)
  have XS:=ds_.x;have nXS:=XS.next;refine W.dst (vs:=[.int .i64 (r.dep.getD k 0+d)]) (cs':=(((pL fn d k r.dep).map Flat.enc).set k (([.int .i64 (r.dep.getD k 0)]:List CV).set 0 (.int .i64 (r.dep.getD k 0+d)))).flatten) ds_.hri rfl rfl rfl rfl rfl rfl rfl ((XS.old _ hi2).trans hi4) (fB (f:=0) hi5 (Nat.lt_succ_self 0) hel) λq7 S7 hr7 s7=> ?_;obtain⟨N7,hN7⟩:∃N,N=h_:=⟨_,rfl⟩;rw[<-hN7]at XS nXS s7;have gM:S7.get bt=some (.cells (((pL fn d k r.dep).map Flat.enc).set k [.int .i64 (r.dep.getD k 0+d)]).flatten false):=by rw[s7.get,aG];rfl
  have kM:∀a,a≠bt->S7.get a=N7.get a:=λa ha=>by rw[s7.get,aA,if_neg (Ne.symm ha)]
  have nM:S7.next=N7.next:=s7.next;have O:=O.ext XS;have gb:=(XS.old c9 (by omega)).trans gb;have g6:=(XS.old b6 (by omega)).trans g6;have X:=X.trans XS;have lt9:=Nat.lt_of_lt_of_le ltb nXS;have lt66:=Nat.lt_of_lt_of_le lt6 nXS;have ltt:=Nat.lt_of_lt_of_le hi2 nXS;obtain⟨M,hM⟩:∃M,M=S7:=⟨_,rfl⟩;rw[<-hM]at gM kM nM;rw[<-hM];clear s7 hr7 hM ds ds_;obtain⟨O1,kx⟩:=uK (A:=[(1,y1,(qE fn d k r.arr).map Flat.enc)]) (B:=[]) (e:=[.int .i64 (r.dep.getD k 0+d)]) O (by rw[List.length_map,dD];exact e1) rfl (aGa e1 k1) hi3 hi1 nM gM kM;have XM:=Ext.store X nM kM (by omega) (by omega);have gb1:=(kx c9 (by simp)).trans gb;have g61:=(kx b6 (by simp)).trans g6;have Lb1:LocE M c9 0 [.int .i64 r.trip,.int .i64 r.no,y1,y2]:=⟨_,_,gb1,by omega,rfl⟩;clear Lb Lel SD;refine fT 1 2 6 8 9 10 λT=> ?_;by_cases f1:fn<k\/(k=0/\fn=0)
  ·have cA:=f1
   rcases f1 with f1|⟨f1,f2⟩
   all_goals
    obtain⟨bu,cu,xu,ew,hj1,hj2,hj3,hj4,hj5⟩:=OwnR.at (O1.o (1,y1,(qE fn d k r.arr).map Flat.enc) (by simp)) (j:=k) (by rw[List.length_map,dE];exact ea);rw[List.length_map,dE]at ew;have hel2:=aGf (f:=fn) (d:=d) ea;have Lem:LocE M bu (0+k*1) [.int .i64 (r.arr.getD k 0)]:=⟨_,_,hj4,hj2,dX hj5 hel2⟩;repeat (first|refine aC ?_|refine W.e λr_ h_ ds_ s_=> ?_)
    repeat (first|refine W.g ?_|refine W.m λh_ X_ n_ g_ L_=> ?_|refine W.n λh_ X_ n_ g_ S_=> ?_)
    have ds:=aD (XM.fr fr);repeat (first|refine aC ?_|refine W.e λr_ h_ ds_ s_=> ?_)
    refine iY rfl rfl ew rfl rfl rfl rfl (bE (j:=k) rfl ea) ?_;repeat (first|refine aC ?_|refine W.e λr_ h_ ds_ s_=> ?_)
    refine iY rfl rfl ew rfl rfl rfl rfl (bE (j:=k) rfl ea) ?_;repeat (first|refine aC ?_|refine W.e λr_ h_ ds_ s_=> ?_)
    have XS:=ds_.x;have nXS:=XS.next;refine W.dst (vs:=[.int .i64 (r.arr.getD k 0+d)]) (cs':=(((qE fn d k r.arr).map Flat.enc).set k (([.int .i64 (r.arr.getD k 0)]:List CV).set 0 (.int .i64 (r.arr.getD k 0+d)))).flatten) ds_.hri rfl rfl rfl rfl rfl rfl rfl ((XS.old _ hj2).trans hj4) (fB (f:=0) hj5 (Nat.lt_succ_self 0) hel2) λq8 S8 hr8 s8=> ?_;repeat (first|refine aC ?_|refine W.e λr_ h_ ds_ s_=> ?_)
    repeat (first|refine W.g ?_|refine W.m λh_ X_ n_ g_ L_=> ?_|refine W.n λh_ X_ n_ g_ S_=> ?_)
    have gM2:S8.get bu=some (.cells (((qE fn d k r.arr).map Flat.enc).set k [.int .i64 (r.arr.getD k 0+d)]).flatten false):=by rw[s8.get,aG];rfl
    have kM2:∀a,a≠bu->S8.get a=_:=λa ha=>by rw[s8.get,aA,if_neg (Ne.symm ha)]
    have nM2:S8.next=_:=s8.next;obtain⟨O2,kx2⟩:=uK (A:=[]) (e:=[.int .i64 (r.arr.getD k 0+d)]) (O1.ext XS) (by rw[List.length_map,dE];exact ea) rfl (aGd ea cA) hj3 hj1 nM2 gM2 kM2;have XM2:=Ext.store (XM.trans XS) nM2 kM2 (by omega) (Nat.lt_of_lt_of_le hj2 nXS);exact⟨k+1,aI e1,XM2,O2,(kx2 c9 (by simp)).trans ((XS.old c9 (by omega)).trans gb1),(kx2 b6 (by simp)).trans ((XS.old b6 (by omega)).trans g61),rfl,rfl,rfl,rfl,rfl,rfl,by omega,e1⟩
  ·repeat (first|refine aC ?_|refine W.e λr_ h_ ds_ s_=> ?_)
   repeat (first|refine W.g ?_|refine W.m λh_ X_ n_ g_ L_=> ?_|refine W.n λh_ X_ n_ g_ S_=> ?_)
   exact⟨k+1,aI e1,XM,by rw[aBi (by omega)];exact O1,gb1,g61,rfl,rfl,rfl,rfl,rfl,rfl,by omega,e1⟩
 ·have ek:k=r.dep.length:=by omega
  have e2:¬k<r.arr.length:=by omega
  have eq1:qE fn d k r.arr=fY fn d r.arr:=by rw[ek,hdl];exact aGe
  have eq2:pL fn d k r.dep=fX fn d r.dep:=by rw[ek];exact aGb
  repeat (first|refine W.g ?_|refine W.m λh_ X_ n_ g_ L_=> ?_|refine W.n λh_ X_ n_ g_ S_=> ?_)
  refine aK (vs:=[.int .i64 r.trip,.int .i64 r.no,y1,y2]) (cs':=[.int .i64 r.trip,.int .i64 r.no,y1,y2]) rfl rfl rfl rfl rfl rfl g6 rfl λM nM gM kM=> ?_;repeat (first|refine W.g ?_|refine W.m λh_ X_ n_ g_ L_=> ?_|refine W.n λh_ X_ n_ g_ S_=> ?_)
  refine aQ rfl rfl rfl gM rfl rfl ?_;rw[eq1,eq2]at O;have OM:=(O.put nM kM).1;exact q M _ (Ext.store X nM kM (by omega) (by omega)) ⟨y1,y2,rfl,(OM.o (1,y1,(fY fn d r.arr).map Flat.enc) (by simp)).toSl (α:=Int),(OM.o (1,y2,(fX fn d r.dep).map Flat.enc) (by simp)).toSl (α:=Int)⟩
end
end Go.Proofs.YtfheibkikpefkaaGreatDoor

namespace Go.Proofs.YtfheibkikpefkaaGreatDoor
open Go Go.CM Go.CM.Tt
noncomputable section
set_option maxHeartbeats 40000000
set_option maxRecDepth 100000
theorem aFv {w:WorldD} {h1 h2:Heap} {v1 v2:CV} {e1 e2:Int} (a:allOk w h1 v1 e1) (b:allOk w h2 v2 e2):e1=e2/\∃l:List RunD,Sl h1 v1 l/\Sl h2 v2 l/\l.length<=1099511627776/\∀x∈l,x.arr.length<=1099511627776/\x.dep.length<=1099511627776:=by
 rcases a with⟨a1,rfl,rfl⟩|⟨a1,a2,rfl,rfl⟩|⟨a1,a2,rfl,a3⟩
 ·rcases b with⟨b1,rfl,rfl⟩|⟨b1,b2,rfl,rfl⟩|⟨b1,b2,rfl,b3⟩
  ·exact⟨rfl,[],Sl.nil,Sl.nil,by decide,λx h=>by cases h⟩
  ·exact absurd b1 a1
  ·exact absurd b1 a1
 ·rcases b with⟨b1,rfl,rfl⟩|⟨b1,b2,rfl,rfl⟩|⟨b1,b2,rfl,b3⟩
  ·exact absurd a1 b1
  ·exact⟨rfl,[],Sl.nil,Sl.nil,by decide,λx h=>by cases h⟩
  ·omega
 ·rcases b with⟨b1,rfl,rfl⟩|⟨b1,b2,rfl,rfl⟩|⟨b1,b2,rfl,b3⟩
  ·exact absurd a1 b1
  ·omega
  ·have f:=bW a1
   have:=qG f w.trips.length (Nat.le_refl _);exact⟨rfl,_,a3,b3,by omega,λx hx=>xT f _ (Nat.le_refl _) hx⟩
theorem aPr {w:WorldD} {n no:Int}:(w.oneX n no).1.arr.length<=1099511627776/\(w.oneX n no).1.dep.length<=1099511627776:=by
 by_cases c:w.check.err=0
 ·by_cases d:(0<=n/\n<w.trips.length)/\w.hasAt n.toNat no
  ·obtain⟨j,hj⟩:∃j:Nat,n=(j:Int):=⟨n.toNat,by omega⟩
   have h2:=d.2;rw[hj,Int.toNat_natCast]at h2;obtain⟨t,r,jr,T⟩:=(bW c).at (j:=j) (by omega);rw[hj,eB c (by omega) h2];have:=T.tame.1;show(w.runAt j no).arr.length<=_/\(w.runAt j no).dep.length<=_;rw[T.run];exact⟨by rw[cT];omega,by rw[cS];omega⟩
  ·rw[bN c d];exact⟨by show 0<=_;decide,by show 0<=_;decide⟩
 ·rw[dY c];exact⟨by show 0<=_;decide,by show 0<=_;decide⟩
open Classical in
theorem aIt {r:RunD} {f d:Int} (h1:r.arr.length<=1099511627776) (h2:r.dep.length<=1099511627776):(r.later f d).1.arr.length<=1099511627776/\(r.later f d).1.dep.length<=1099511627776:=by
 unfold RunD.later;split
 ·exact⟨by show 0<=_;decide,by show 0<=_;decide⟩
 ·split
  ·exact⟨by show 0<=_;decide,by show 0<=_;decide⟩
  ·exact⟨by show(fY _ _ _).length<=_;simp[fY];exact h1,by show(fX _ _ _).length<=_;simp[fX];exact h2⟩
theorem aQt {h:Heap} {tm:Tm} {cs cr:List CV} {w:WorldD} {u:RunD} (n no f d:Int) (r:Rp.R h cs w) (rr:Rp.R h cr u) (rh:RH h) (fr:Fresh h):W E1 (.call (.fn 6 [] []) [.agg cs,.agg cr,.int .i64 n,.int .i64 no,.int .i64 f,.int .i64 d]) tm h (λr=>∃h',r= .val (.bool true) h'):=by
 have r0:=r;have u0:=rr;obtain⟨v1,v2,v3,v4,v5,v6,v7,v8,v9,v10,v11,rfl,_⟩:=r;obtain⟨wA,wD,rfl,sA,sD⟩:=rr;refine W.fn (s:=aB Tryz.f6) rfl rfl rfl rfl ?_;repeat (refine W.seq ?_)
 refine W.region ?_;refine W.box rfl rfl rfl λH1 X1 n1 g1 L6=> ?_;refine W.box rfl rfl rfl λH2 X2 n2 g2 L7=> ?_;have L6:=L6.ext X2;have Y2:=X1.trans X2;clear g1 g2;repeat (first|refine W.g ?_|refine W.m λh_ X_ n_ g_ L_=> ?_|refine W.n λh_ X_ n_ g_ S_=> ?_)
 refine W.call rfl rfl rfl (W.known rfl (rh.ext Y2).1 ?_);refine aDo 2 3 4 5 6 7 12 25 λT=> ?_;repeat (first|refine W.g ?_|refine W.m λh_ X_ n_ g_ L_=> ?_|refine W.n λh_ X_ n_ g_ S_=> ?_)
 refine W.call rfl rfl rfl (aQf (Rp.ext Y2 r0) (Y2.fr fr) λH3 b X3 hb=> ?_);have L6:=L6.ext X3;have L7:=L7.ext X3;have Y3:=Y2.trans X3;refine aDo 2 3 4 5 6 7 12 28 λT=> ?_;cases b
 ·repeat (first|refine W.g ?_|refine W.m λh_ X_ n_ g_ L_=> ?_|refine W.n λh_ X_ n_ g_ S_=> ?_)
  exact⟨_,rfl⟩
 have lx:=hb.1 rfl;have lw:=lx.1;have sm:=qX lw;have sl:w.whole->w.told.slim:=λ_=>tK lw;clear hb;by_cases a1:100<u.arr.length
 ·repeat (first|refine W.g ?_|refine W.m λh_ X_ n_ g_ L_=> ?_|refine W.n λh_ X_ n_ g_ S_=> ?_)
  exact⟨_,rfl⟩
 by_cases a2:100<u.dep.length
 ·repeat (first|refine W.g ?_|refine W.m λh_ X_ n_ g_ L_=> ?_|refine W.n λh_ X_ n_ g_ S_=> ?_)
  exact⟨_,rfl⟩
 have one:=aPr (w:=w) (n:=n) (no:=no);have lat:=aIt (r:=u) (f:=f) (d:=d) (by omega) (by omega);repeat (first|refine W.g ?_|refine W.m λh_ X_ n_ g_ L_=> ?_|refine W.n λh_ X_ n_ g_ S_=> ?_)
 refine W.call rfl rfl rfl (aTh (Rp.ext Y3 r0) (rh.ext Y3) (Y3.fr fr) sm sl n no λH4 t0 n0 xA xD a0 d0 X4 O4 he=> ?_);have R4:=O4.run (t:=t0) (n:=n0);rw[he]at R4;have L6:=L6.ext X4;have L7:=L7.ext X4;have Y4:=Y3.trans X4;obtain⟨e1,hE1⟩:∃e,e=(w.oneX n no).2:=⟨_,rfl⟩;rw[<-hE1];obtain⟨c4,hc4⟩:∃c:List CV,c=[.int .i64 t0,.int .i64 n0,xA,xD]:=⟨_,rfl⟩;refine aDo 2 3 4 5 6 7 12 46 λT=> ?_;clear O4;repeat (first|refine W.g ?_|refine W.m λh_ X_ n_ g_ L_=> ?_|refine W.n λh_ X_ n_ g_ S_=> ?_)
 have L13:=L_;have L6:=L6.ext X_;have L7:=L7.ext X_;have Y5:=Y4.trans X_;have R4:=Rp.ext X_ R4;clear L_ g_;refine W.call rfl rfl rfl (aTr (Rp.ext Y5 r0) (Y5.fr fr) sm sl n no λH6 t1 n1' yA yD b0 c0 X6 O6 he2=> ?_);have R6:=O6.run (t:=t1) (n:=n1');rw[he2]at R6;have L6:=L6.ext X6;have L7:=L7.ext X6;have L13:=L13.ext X6;have Y6:=Y5.trans X6;have R4:=Rp.ext X6 R4;rw[<-hE1];refine aXq 2 3 4 5 6 7 12 13 14 53 λT=> ?_;clear O6;repeat (first|refine W.g ?_|refine W.m λh_ X_ n_ g_ L_=> ?_|refine W.n λh_ X_ n_ g_ S_=> ?_)
 have L15:=L_;have L6:=L6.ext X_;have L7:=L7.ext X_;have L13:=L13.ext X_;have Y7:=Y6.trans X_;have R4:=Rp.ext X_ R4;have R6:=Rp.ext X_ R6;clear L_ g_;refine W.call rfl rfl rfl (aZb (Rp.ext Y7 r0) (rh.ext Y7) (Y7.fr fr) sm sl λH8 va ea X8 hA=> ?_);have L6:=L6.ext X8;have L7:=L7.ext X8;have L13:=L13.ext X8;have L15:=L15.ext X8;have Y8:=Y7.trans X8;have R4:=Rp.ext X8 R4;have R6:=Rp.ext X8 R6;refine rS 2 3 4 5 6 7 12 13 14 15 16 58 58 58 58 58 58 58 λT=> ?_;repeat (first|refine W.g ?_|refine W.m λh_ X_ n_ g_ L_=> ?_|refine W.n λh_ X_ n_ g_ S_=> ?_)
 refine W.call rfl rfl rfl (aTs (Rp.ext Y8 r0) (Y8.fr fr) sm sl λH9 vb eb X9 hB=> ?_);have L6:=L6.ext X9;have L7:=L7.ext X9;have L13:=L13.ext X9;have L15:=L15.ext X9;have Y9:=Y8.trans X9;have R4:=Rp.ext X9 R4;have R6:=Rp.ext X9 R6;obtain⟨rfl,l,sa,sb,hll,hlx⟩:=aFv hA hB;have sa:=sa.ext X9;clear hA hB;refine rS 2 3 4 5 6 7 12 13 14 15 16 17 18 63 63 63 63 63 λT=> ?_;repeat (first|refine W.g ?_|refine W.m λh_ X_ n_ g_ L_=> ?_|refine W.n λh_ X_ n_ g_ S_=> ?_)
 refine W.call rfl rfl rfl (aLa (Rp.ext Y9 u0) (Y9.fr fr) (by omega) (by omega) λHA ca XA RA=> ?_);have L6:=L6.ext XA;have L7:=L7.ext XA;have L13:=L13.ext XA;have L15:=L15.ext XA;have YA:=Y9.trans XA;have R4:=Rp.ext XA R4;have R6:=Rp.ext XA R6;have sa:=sa.ext XA;have sb:=sb.ext XA;refine rS 2 4 5 6 7 12 13 14 15 16 17 18 19 20 68 68 68 68 λT=> ?_;repeat (first|refine W.g ?_|refine W.m λh_ X_ n_ g_ L_=> ?_|refine W.n λh_ X_ n_ g_ S_=> ?_)
 refine W.call rfl rfl rfl (aRu RA (YA.fr fr) (by omega) (by omega) f d λHB cb XB RB=> ?_);obtain⟨e2,hE2⟩:∃e,e=(u.later f d).2:=⟨_,rfl⟩;rw[<-hE2];have L6:=L6.ext XB;have L7:=L7.ext XB;have L13:=L13.ext XB;have L15:=L15.ext XB;have YB:=YA.trans XB;have R4:=Rp.ext XB R4;have R6:=Rp.ext XB R6;have sa:=sa.ext XB;have sb:=sb.ext XB;clear RA;refine rS 2 4 5 6 7 12 13 14 15 16 17 18 19 20 71 71 71 71 λT=> ?_;have hcb:=Rp.len RB;obtain⟨z1,z2,rfl,_⟩:=id RB;repeat (first|refine W.g ?_|refine W.m λh_ X_ n_ g_ L_=> ?_|refine W.n λh_ X_ n_ g_ S_=> ?_)
 have L21:=L_;have L6:=L6.ext X_;have L7:=L7.ext X_;have L13:=L13.ext X_;have L15:=L15.ext X_;have YC:=YB.trans X_;have R4:=Rp.ext X_ R4;have R6:=Rp.ext X_ R6;have RB:=Rp.ext X_ RB;have sa:=sa.ext X_;have sb:=sb.ext X_;clear L_ g_;refine W.call rfl rfl rfl (aKv (Rp.ext YC u0) (YC.fr fr) (by omega) (by omega) f d λHD cd XD RD=> ?_);rw[<-hE2];have L6:=L6.ext XD;have L7:=L7.ext XD;have L13:=L13.ext XD;have L15:=L15.ext XD;have L21:=L21.ext XD;have YD:=YC.trans XD;have R4:=Rp.ext XD R4;have R6:=Rp.ext XD R6;have RB:=Rp.ext XD RB;have sa:=sa.ext XD;have sb:=sb.ext XD;refine rS 2 6 7 12 13 14 15 16 17 18 19 20 21 22 78 78 78 78 λT=> ?_;obtain⟨z3,z4,rfl,_⟩:=id RD;repeat (first|refine W.g ?_|refine W.m λh_ X_ n_ g_ L_=> ?_|refine W.n λh_ X_ n_ g_ S_=> ?_)
 have L23:=L_;have L6:=L6.ext X_;have L7:=L7.ext X_;have L13:=L13.ext X_;have L15:=L15.ext X_;have L21:=L21.ext X_;have YE:=YD.trans X_;have R4:=Rp.ext X_ R4;have R6:=Rp.ext X_ R6;have RB:=Rp.ext X_ RB;have RD:=Rp.ext X_ RD;have sa:=sa.ext X_;have sb:=sb.ext X_;clear L_ g_;obtain⟨K,hK⟩:∃K,K=h_:=⟨_,rfl⟩;rw[<-hK]at L6 L7 L13 L15 L21 L23 YE R4 R6 RB RD sa sb ⊢;clear hK X_ n_ X1 X2 X3 X4 X6 X8 X9 XA XB XD Y2 Y3 Y4 Y5 Y6 Y7 Y8 Y9 YA YB YC YD n1 n2;refine rS 2 6 7 12 13 14 15 16 17 18 19 20 21 22 23 24 24 24 λT=> ?_;have ds:=aD (YE.fr fr);repeat (first|refine aC ?_|refine W.e λr_ h_ ds_ s_=> ?_)
 refine aH ds_ rfl rfl rfl rfl (aRx (Rp.ext (YE.trans ds_.x) r0) (rh.ext (YE.trans ds_.x)) ((YE.trans ds_.x).fr fr) sm sl n λh1 Z1=>DZ.val Z1 λq1 N1 ds1 t1=> ?_);obtain⟨cn,hcn⟩:∃c,c=w.countX n:=⟨_,rfl⟩;rw[<-hcn];refine rS 2 6 7 12 13 14 15 16 17 18 19 20 21 22 23 24 83 83 λT=> ?_;clear ds_ s_ ds;repeat (first|refine aC ?_|refine W.e λr_ h_ ds_ s_=> ?_)
 refine aH ds_ rfl rfl rfl rfl (aBu (Rp.ext (YE.trans ds_.x) r0) ((YE.trans ds_.x).fr fr) sm sl n λh1 Z1=>DZ.val Z1 λq2 N2 ds2 t2=> ?_);rw[<-hcn];refine rS 2 6 7 12 13 14 15 16 17 18 19 20 21 22 23 24 83 86 λT=> ?_;clear ds_ s_ ds1;repeat (first|refine aC ?_|refine W.e λr_ h_ ds_ s_=> ?_)
 refine aH ds_ rfl rfl rfl rfl (rY (Rp.ext ds_.x R4) (Rp.ext ds_.x R6) ((YE.trans ds_.x).fr fr) one.1 one.2 λh1 Z1=>DZ.val Z1 λq3 N3 ds3 t3=> ?_);refine rS 6 7 12 14 16 17 18 19 20 21 22 23 24 88 91 91 91 91 λT=> ?_;clear ds_ s_ ds2;repeat (first|refine aC ?_|refine W.e λr_ h_ ds_ s_=> ?_)
 refine aH ds3 rfl rfl rfl rfl (aDy (sa.ext ds3.x) (sb.ext ds3.x) ((YE.trans ds3.x).fr fr) hll hlx λh1 Z1=>DZ.val Z1 λq4 N4 ds4 t4=> ?_);refine aXp 6 7 12 18 20 21 22 23 24 98 101 λT=> ?_;clear ds3;repeat (first|refine aC ?_|refine W.e λr_ h_ ds_ s_=> ?_)
 obtain⟨ck,hck⟩:∃c,c=w.checkR u:=⟨_,rfl⟩;refine aH ds_ rfl rfl rfl rfl (aRy (Rp.ext (YE.trans ds_.x) r0) (Rp.ext (YE.trans ds_.x) (show Rp.R h _ (⟨u.trip,u.no,u.arr,u.dep⟩:RunD)from u0)) (rh.ext (YE.trans ds_.x)) ((YE.trans ds_.x).fr fr) sm sl (by omega) λh1 Z1=>DZ.val Z1 λq5 N5 ds5 t5=> ?_);rw[show w.checkR ⟨u.trip,u.no,u.arr,u.dep⟩=ck from hck.symm];refine aFw 6 7 12 21 22 23 24 108 111 λT=> ?_;clear ds_ s_ ds4;repeat (first|refine aC ?_|refine W.e λr_ h_ ds_ s_=> ?_)
 refine aH ds_ rfl rfl rfl rfl (aKw (Rp.ext (YE.trans ds_.x) r0) (Rp.ext (YE.trans ds_.x) (show Rp.R h _ (⟨u.trip,u.no,u.arr,u.dep⟩:RunD)from u0)) (rh.ext (YE.trans ds_.x)) ((YE.trans ds_.x).fr fr) sm sl (by omega) λh1 Z1=>DZ.val Z1 λq6 N6 ds6 t6=> ?_);rw[show w.checkR ⟨u.trip,u.no,u.arr,u.dep⟩=ck from hck.symm];refine aDo 12 21 22 23 24 108 111 114 λT=> ?_;clear ds_ s_ ds5;repeat (first|refine aC ?_|refine W.e λr_ h_ ds_ s_=> ?_)
 refine aH ds_ rfl rfl rfl rfl (rY (Rp.ext ds_.x RB) (Rp.ext ds_.x RD) ((YE.trans ds_.x).fr fr) lat.1 lat.2 λh1 Z1=>DZ.val Z1 λq7 N7 ds7 t7=> ?_);refine gS 12 22 24 117 120 λT=> ?_;clear ds_ s_ ds6;repeat (first|refine aC ?_|refine W.e λr_ h_ ds_ s_=> ?_)
 repeat (first|refine W.g ?_|refine W.m λh_ X_ n_ g_ L_=> ?_|refine W.n λh_ X_ n_ g_ S_=> ?_)
 exact⟨_,rfl⟩
end
end Go.Proofs.YtfheibkikpefkaaGreatDoor
