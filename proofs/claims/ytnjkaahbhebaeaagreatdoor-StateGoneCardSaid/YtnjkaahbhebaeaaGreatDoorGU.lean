/- StateGone, by the program: a run that is gone does not go; all others go as they did. No condition but that memory beyond the next number is empty. -/
import Derived.Test.YtnjkaahbhebaeaaGreatDoorXU
import Derived.Test.YtnjkaahbhebaeaaGreatDoorHDg
import Derived.Test.YtnjkaahbhebaeaaGreatDoorGI
import Derived.Test.YtnjkaahbhebaeaaGreatDoorHB
set_option linter.unusedVariables false
set_option linter.unusedSimpArgs false
set_option maxRecDepth 100000
namespace Go.Proofs.YtnjkaahbhebaeaaGreatDoor
open Go Go.CM Go.CM.Tt
noncomputable section
set_option maxHeartbeats 40000000
set_option maxRecDepth 100000
theorem stateGone_w {h:Heap} {tm:Tm} {cs:List CV} {s:StateD} (n:Int) (ss:Rp.R h cs s) (rh:RH h) (fr:Fresh h):W E1 (.call (.fn 6 [] []) [.agg cs,.int .i64 n]) tm h (λr=>∃h',r= .val (.bool true) h'):=by
 have ss0:=ss
 obtain⟨a1,a2,a3,a4,a5,a6,a7,a8,a9,a10,a11,vl,vg,rfl,rw0,t1,t2⟩:=ss
 refine W.fn (s:=fnOf Tryz.f6) rfl rfl rfl rfl ?_
 repeat (refine W.seq ?_)
 refine W.region ?_
 refine W.box rfl rfl rfl λH1 X1 n1 g1 L1=> ?_
 repeat refine W.g ?_
 refine W.call rfl rfl rfl (W.known rfl (rh.ext X1).1 ?_)
 repeat refine W.g ?_
 refine W.call rfl rfl rfl (lightState_w (Rp.ext X1 ss0) λh2 b X2 hb=> ?_)
 have L1:=L1.ext X2
 have XX:=X1.trans X2
 refine W.k3 1 2 19 λT=> ?_
 cases b
 ·repeat refine W.g ?_
  exact⟨_,rfl⟩
 obtain⟨fw,hl6,hg6⟩:=hb rfl
 have sm:=few_small fw
 have sl:s.w.whole->s.w.told.slim:=λ_=>few_told fw
 repeat refine W.g ?_
 refine W.call rfl rfl rfl (runsS_w (Rp.ext XX ss0) (rh.ext XX) (XX.fr fr) sm sl (by omega) λh3 va ea X3 e3 r3 z3=> ?_)
 have XY:=XX.trans X3
 have L1:=L1.ext X3
 refine W.k3 1 2 23 λT=> ?_
 by_cases c0:ea=0
 rotate_left
 ·repeat refine W.g ?_
  exact⟨_,rfl⟩
 have ok:=e3.1 c0
 subst c0
 obtain⟨cssA,obA⟩:=r3 rfl
 have sA:=obA.toSl
 have sA3:=sA
 clear r3 z3 e3 obA
 by_cases c1:s.goes.length=0
 ·have c1':(s.goes.length:Int)=0:=by omega
  repeat refine W.g ?_
  exact⟨_,rfl⟩
 have c1':¬(s.goes.length:Int)=0:=by omega
 have hgl:s.goes.length<=16384:=by
  have h1:=runs_len (WorldD.fine ok.1) s.w.trips.length (Nat.le_refl _)
  have h2:s.goes.length<=(s.w.runs s.w.trips.length).length:=by unfold StateD.goes;rw[List.length_map];exact List.length_filter_le _ _
  have h3:=ok.2.1
  omega
 repeat refine W.g ?_
 refine W.call rfl rfl rfl (pick_w n s.goes.length (by omega) (by omega) λk hk=> ?_)
 refine W.k3 2 5 36 λT=> ?_
 repeat refine W.g ?_
 obtain⟨q0,eA,hr⟩:=StateD.goes_at hk
 obtain⟨r,her⟩:∃r,r=s.goes0[k]:=⟨_,rfl⟩
 obtain⟨c,tk,hmany,lok,gok⟩:=id ok
 have LGs:s.LG:=⟨hmany,lok.1,lok.2.1,lok.2.2,gok.1,gok.2⟩
 rw[<-her]at eA hr
 have one:=runs_one c hr
 have keepA:=LGs.keep one
 obtain⟨A,hAe⟩:∃A,A=s.asIs r:=⟨_,rfl⟩
 rw[<-hAe]at eA keepA
 have eid:r.id=(A.trip,A.no):=by rw[keepA.1,keepA.2.1];rfl
 obtain⟨x,hx⟩:∃x,x=r.id:=⟨_,rfl⟩
 rw[<-hx]at eid
 have hn:x∉s.gone:=by rw[hx,her];exact StateD.goes0_not q0
 have hone:(s.w.oneX x.1 x.2).2=0:=by rw[hx];show(s.w.oneX r.trip r.no).2=0;rw[one]
 have ds:=DX.start (XY.fr fr)
 repeat refine W.gd ?_
 refine W.dixR sA hk rfl rfl rfl rfl rfl rfl rfl λi1 o1 e1 M1 r1=> ?_
 rw[eA]at r1
 obtain⟨x1,x2,rfl,y1,y2⟩:=id r1
 repeat (first|refine W.gd ?_|refine W.e λr_ h_ ds_ s_=> ?_)
 refine W.dixR sA hk rfl rfl rfl rfl rfl rfl rfl λi2 o2 e2 M2 r2=> ?_
 rw[eA]at r2
 obtain⟨x3,x4,rfl,y3,y4⟩:=id r2
 repeat (first|refine W.gd ?_|refine W.e λr_ h_ ds_ s_=> ?_)
 refine W.dnewZ ds_ (v:= .ptr (some (h_.next,0))) (b:= .cells [.int .i64 0,.int .i64 0] false) rfl rfl rfl rfl λr4 N4 ds4 X4 n4 g4=> ?_
 refine W.dst (vs:=[.int .i64 A.trip,.int .i64 A.no]) (cs':=[.int .i64 A.trip,.int .i64 A.no]) ds4.hri rfl rfl rfl rfl rfl rfl rfl g4 rfl λq5 N5 hr5 s5=> ?_
 try refine W.dv ?_
 have k5:∀a,a≠h_.next->N5.get a=N4.get a:=λa ha=>by rw[s5.get,Heap.get_put,if_neg (Ne.symm ha)]
 have n5:N5.next=N4.next:=s5.next
 have nZ:=ds_.x.next
 have X5:Ext h3 N5:=Ext.store ds4.x n5 k5 (by omega) (by omega)
 have e5:x=(A.trip,A.no):=eid
 obtain⟨b7,hb7⟩:∃b,b=h_.next:=⟨_,rfl⟩
 rw[<-hb7]at s5 k5 n4 ⊢
 have L7:LocE N5 b7 0 [.int .i64 x.1,.int .i64 x.2]:=by
  rw[e5]
  exact⟨_,_,by rw[s5.get,put_same],by omega,rfl⟩
 have XZ:=XY.trans X5
 have L1:=L1.ext X5
 have sA:=sA.ext X5
 clear g4 ds ds_ ds4
 repeat refine W.g ?_
 refine W.call rfl rfl rfl (ownState_w (Rp.ext XZ ss0) (XZ.fr fr) sm (by omega) (by omega) λh6 hz m1 m2 m3 m4 m5 m6 p d_ vr t z ul ug X6 ot=> ?_)
 have L1:=L1.ext X6
 have L7b:b7<h6.next:=by have:=X6.next;omega
 have L7:=L7.ext X6
 have sA:=sA.ext X6
 have XA:=XZ.trans X6
 refine W.k5 1 2 5 7 49 λT=> ?_
 repeat (first|refine W.g ?_|refine W.m λh_ X_ n_ g_ L_=> ?_)
 obtain⟨H0,hH0⟩:∃M,M=h_:=⟨_,rfl⟩
 rw[<-hH0]at X_ n_ g_
 rw[<-hH0]
 obtain⟨O4,OL,OG⟩:=ot H0 (by omega) λa _ ha=>X_.old a ha
 obtain rfl:=O4.hz
 have sG:=OwnR.toSl (α:=Int×Int) OG
 obtain⟨b8,hb8⟩:∃b,b=h6.next:=⟨_,rfl⟩
 rw[<-hb8]at g_ n_
 rw[<-hb8]
 have hlt8:h.next<b8:=by have e2:=X2.next;have e3:=X3.next;have e5:=X5.next;have e6:=X6.next;omega
 have L8:LocE H0 b8 0 [.int .i64 s.w.hz,m1,m2,m3,m4,m5,m6,p,d_,vr,t,z,ul,ug]:=⟨_,_,g_,by omega,rfl⟩
 have L1:=L1.ext X_
 have L7:=L7.ext X_
 have sA:=sA.ext X_
 have XB:=XA.trans X_
 clear L_ OL OG O4
 refine W.k8 1 2 5 7 8 9 10 11 λT=> ?_
 refine W.loop (σ:=Nat) (λi tm h'=>Ext H0 h'/\tm.look 1= .int .i64 (k:Int)/\tm.look 2= .ptr (some (h.next,0))/\tm.look 5=va/\tm.look 7= .ptr (some (b7,0))/\tm.look 8= .ptr (some (b8,0))/\tm.look 11= .int .i64 (i:Int)/\i<=s.gone.length/\∃v l b,tm.look 9=v/\tm.look 10= .bool b/\OwnR h' H0.next 2 v (l.map (Flat.enc:Int×Int->List CV))/\(b=false->l=s.gone.take i/\∀a∈s.gone.take i,¬ltG x a)/\(b=true->l=insG x (s.gone.take i)/\∃a∈s.gone.take i,ltG x a)/\l.length<=i+1) (λi=>s.gone.length-i) ?_ (s:=0)
  ⟨Ext.refl _,rfl,rfl,rfl,rfl,rfl,rfl,Nat.zero_le _,.slice none 0 0 0,[],false,rfl,rfl,OwnR.nil,(λ_=>⟨rfl,λa ha=>by simp at ha⟩),(λh=>by cases h),by simp⟩
 rintro i tm h' ⟨X,w1,w2,w5,w7,w8,w11,hi,v,l,b,w9,w10,ov,hf,ht,hlen⟩
 obtain⟨T,rfl⟩:=Tm.t8 w1 w2 w5 w7 w8 w9 w10 w11
 clear w1 w2 w5 w7 w8 w9 w10 w11
 have XC:=XB.trans X
 have L1k:=L1
 have L7k:=L7
 have L8k:=L8
 have L7:=L7.ext X
 have L8:=L8.ext X
 have sG':=sG.ext X
 by_cases ci:i<s.gone.length
 ·obtain⟨a,ha⟩:∃a,a=s.gone[i]:=⟨_,rfl⟩
  have htk:s.gone.take (i+1)=s.gone.take i++[a]:=by rw[List.take_add_one,List.getElem?_eq_getElem ci,ha];rfl
  repeat refine W.g ?_
  have ds:=DX.start (XC.fr fr)
  refine W.cutB (λtm h9=>Ext h' h9/\tm.look 1= .int .i64 (k:Int)/\tm.look 2= .ptr (some (h.next,0))/\tm.look 5=va/\tm.look 7= .ptr (some (b7,0))/\tm.look 8= .ptr (some (b8,0))/\tm.look 9=v/\tm.look 10= .bool b/\tm.look 11= .int .i64 (i:Int)/\∃c:Bool,tm.look 91= .bool c/\(c=true↔b=false/\ltG x a)) ?_ ?_
  ·cases b
   rotate_left
   ·repeat refine W.gd ?_
    repeat refine W.g ?_
    exact⟨ds.x,rfl,rfl,rfl,rfl,rfl,rfl,rfl,rfl,false,rfl,Iff.intro (λh=>by cases h) (λh=>by cases h.1)⟩
   repeat (first|refine W.gd ?_|refine W.e λr_ h_ ds_ s_=> ?_)
   refine W.dixF sG' ci rfl rfl rfl rfl rfl rfl rfl λi1 o1 M1=> ?_
   replace M1:=show LocE h' i1 o1 [.int .i64 a.1,.int .i64 a.2]from by rw[ha];exact M1
   by_cases f1:x.1<a.1
   ·repeat (first|refine W.gd ?_|refine W.e λr_ h_ ds_ s_=> ?_)
    repeat refine W.g ?_
    exact⟨ds_.x,rfl,rfl,rfl,rfl,rfl,rfl,rfl,rfl,true,rfl,Iff.intro (λ_=>⟨rfl,.inl f1⟩) (λ_=>rfl)⟩
   repeat (first|refine W.gd ?_|refine W.e λr_ h_ ds_ s_=> ?_)
   refine W.dixF sG' ci rfl rfl rfl rfl rfl rfl rfl λi2 o2 M2=> ?_
   replace M2:=show LocE h' i2 o2 [.int .i64 a.1,.int .i64 a.2]from by rw[ha];exact M2
   by_cases f2:a.1=x.1
   rotate_left
   ·repeat (first|refine W.gd ?_|refine W.e λr_ h_ ds_ s_=> ?_)
    repeat refine W.g ?_
    exact⟨ds_.x,rfl,rfl,rfl,rfl,rfl,rfl,rfl,rfl,false,rfl,Iff.intro (λh=>by cases h) (λh=>by
     have h2:=h.2
     unfold ltG at h2
     exfalso
     rcases h2 with h2|h2
     ·exact f1 h2
     ·exact f2 h2.1.symm)⟩
   repeat (first|refine W.gd ?_|refine W.e λr_ h_ ds_ s_=> ?_)
   refine W.dixF sG' ci rfl rfl rfl rfl rfl rfl rfl λi3 o3 M3=> ?_
   replace M3:=show LocE h' i3 o3 [.int .i64 a.1,.int .i64 a.2]from by rw[ha];exact M3
   by_cases f3:x.2<a.2
   ·repeat (first|refine W.gd ?_|refine W.e λr_ h_ ds_ s_=> ?_)
    repeat refine W.g ?_
    exact⟨ds_.x,rfl,rfl,rfl,rfl,rfl,rfl,rfl,rfl,true,rfl,Iff.intro (λ_=>⟨rfl,.inr ⟨f2.symm,f3⟩⟩) (λ_=>rfl)⟩
   ·repeat (first|refine W.gd ?_|refine W.e λr_ h_ ds_ s_=> ?_)
    repeat refine W.g ?_
    exact⟨ds_.x,rfl,rfl,rfl,rfl,rfl,rfl,rfl,rfl,false,rfl,Iff.intro (λh=>by cases h) (λh=>by
     have h2:=h.2
     unfold ltG at h2
     exfalso
     rcases h2 with h2|h2
     ·exact f1 h2
     ·exact f3 h2.2)⟩
  clear ds L7 L8 sG'
  rintro tm h9 ⟨X9,w1,w2,w5,w7,w8,w9,w10,w11,cc,w91,hcc⟩
  obtain⟨T,rfl⟩:=Tm.t9 w1 w2 w5 w7 w8 w9 w10 w11 w91
  clear w1 w2 w5 w7 w8 w9 w10 w11 w91
  have X09:=X.trans X9
  have L7:=L7k.ext X09
  have L8:=L8k.ext X09
  have sG':=sG.ext X09
  have ov:=ov.ext X9
  cases cc
  rotate_left
  ·obtain⟨rfl,hlt⟩:=hcc.1 rfl
   obtain⟨el,hno⟩:=hf rfl
   repeat (first|refine W.g ?_|refine W.n λh_ X_ n_ g_ S_=> ?_)
   have S_:SlG h_ 2 (.slice (some (h9.next,0)) 1 1 0) [[.int .i64 x.1,.int .i64 x.2]]:=S_
   refine W.apR2 (H:=H0) (z:=2) (X09.trans X_) (ov.ext X_) S_ (by simp) rfl rfl rfl rfl rfl rfl rfl rfl rfl rfl rfl rfl (by
    rw[List.length_map]
    show(_+1)*16<=_
    omega) λv1 hA XA1 O1 _ _ _=> ?_
   rw[show l.map Flat.enc++[[CV.int .i64 x.1,CV.int .i64 x.2]]=(l++[x]).map Flat.enc from by rw[List.map_append];rfl]at O1
   have L8:=L8k.ext XA1
   clear S_ g_ X_ n_ L7
   repeat refine W.g ?_
   refine W.ixF (sG.ext XA1) ci rfl rfl rfl rfl rfl rfl rfl λi1 o1 M1=> ?_
   replace M1:=show LocE hA i1 o1 [.int .i64 a.1,.int .i64 a.2]from by rw[ha];exact M1
   repeat (first|refine W.g ?_|refine W.n λh_ X_ n_ g_ S_=> ?_)
   have S_:SlG h_ 2 (.slice (some (hA.next,0)) 1 1 0) [[.int .i64 a.1,.int .i64 a.2]]:=S_
   refine W.apR2 (H:=H0) (z:=2) (XA1.trans X_) (O1.ext X_) S_ (by simp) rfl rfl rfl rfl rfl rfl rfl rfl rfl rfl rfl rfl (by
    rw[List.length_map,List.length_append]
    show(_+1+1)*16<=_
    omega) λv2 hB XB1 O2 _ _ _=> ?_
   rw[show(l++[x]).map Flat.enc++[[CV.int .i64 a.1,CV.int .i64 a.2]]=(l++[x]++[a]).map Flat.enc from by rw[List.map_append (l₁:=l++[x])];rfl]at O2
   repeat refine W.g ?_
   refine⟨i+1,lessN ci,XB1,rfl,rfl,rfl,rfl,rfl,rfl,ci,v2,l++[x]++[a],true,rfl,rfl,O2,(λh=>by cases h),(λ_=>⟨?_,a,by rw[htk];simp,hlt⟩),by
    have el2:l.length<=i:=by rw[el,List.length_take];omega
    rw[List.length_append,List.length_append,List.length_singleton,List.length_singleton]
    omega⟩
   rw[htk,insG_app hno,el,show insG x [a]=[x,a]from if_pos hlt,List.append_assoc];rfl
  repeat refine W.g ?_
  refine W.ixF sG' ci rfl rfl rfl rfl rfl rfl rfl λi1 o1 M1=> ?_
  replace M1:=show LocE h9 i1 o1 [.int .i64 a.1,.int .i64 a.2]from by rw[ha];exact M1
  repeat (first|refine W.g ?_|refine W.n λh_ X_ n_ g_ S_=> ?_)
  have S_:SlG h_ 2 (.slice (some (h9.next,0)) 1 1 0) [[.int .i64 a.1,.int .i64 a.2]]:=S_
  refine W.apR2 (H:=H0) (z:=2) (X09.trans X_) (ov.ext X_) S_ (by simp) rfl rfl rfl rfl rfl rfl rfl rfl rfl rfl rfl rfl (by
   rw[List.length_map]
   show(_+1)*16<=_
   omega) λv2 hB XB1 O2 _ _ _=> ?_
  rw[show l.map Flat.enc++[[CV.int .i64 a.1,CV.int .i64 a.2]]=(l++[a]).map Flat.enc from by rw[List.map_append];rfl]at O2
  repeat refine W.g ?_
  refine⟨i+1,lessN ci,XB1,rfl,rfl,rfl,rfl,rfl,rfl,ci,v2,l++[a],b,rfl,rfl,O2,λhb=> ?_,λhb=> ?_,by simp;omega⟩
  ·obtain⟨e1,e2⟩:=hf hb
   refine⟨by rw[htk,e1],λy hy=> ?_⟩
   rw[htk]at hy
   rcases List.mem_append.1 hy with hy|hy
   ·exact e2 y hy
   ·rw[List.mem_singleton.1 hy]
    exact λhl=>by have:=hcc.2 ⟨hb,hl⟩;cases this
  ·obtain⟨e1,y,e2,e3⟩:=ht hb
   exact⟨by rw[htk,insG_in ⟨y,e2,e3⟩,e1],y,by rw[htk];exact List.mem_append_left _ e2,e3⟩
 have ei:i=s.gone.length:=by omega
 rw[ei,List.take_length]at hf ht
 repeat refine W.g ?_
 refine W.cutB (λtm h9=>Ext H0 h9/\tm.look 1= .int .i64 (k:Int)/\tm.look 2= .ptr (some (h.next,0))/\tm.look 5=va/\tm.look 7= .ptr (some (b7,0))/\tm.look 8= .ptr (some (b8,0))/\∃v,tm.look 9=v/\OwnR h9 H0.next 2 v ((insG x s.gone).map (Flat.enc:Int×Int->List CV))) ?_ ?_
 ·cases b
  ·obtain⟨el,hno⟩:=hf rfl
   repeat (first|refine W.g ?_|refine W.n λh_ X_ n_ g_ S_=> ?_)
   have S_:SlG h_ 2 (.slice (some (h'.next,0)) 1 1 0) [[.int .i64 x.1,.int .i64 x.2]]:=S_
   refine W.apR2 (H:=H0) (z:=2) (X.trans X_) (ov.ext X_) S_ (by simp) rfl rfl rfl rfl rfl rfl rfl rfl rfl rfl rfl rfl (by
    rw[List.length_map]
    show(_+1)*16<=_
    omega) λv1 hA XA1 O1 _ _ _=> ?_
   rw[show l.map Flat.enc++[[CV.int .i64 x.1,CV.int .i64 x.2]]=(l++[x]).map Flat.enc from by rw[List.map_append];rfl]at O1
   repeat refine W.g ?_
   refine⟨XA1,rfl,rfl,rfl,rfl,rfl,v1,rfl,?_⟩
   have:=insG_app (x:=x) (m:=[]) (l:=s.gone) hno
   rw[List.append_nil]at this
   rw[this,<-el];exact O1
  ·obtain⟨el,_⟩:=ht rfl
   repeat refine W.g ?_
   exact⟨X,rfl,rfl,rfl,rfl,rfl,v,rfl,by rw[<-el];exact ov⟩
 clear L7 L8 sG' ov hf ht XC
 rintro tm h9 ⟨X9,w1,w2,w5,w7,w8,u,w9,ou⟩
 obtain⟨T,rfl⟩:=Tm.t6 w1 w2 w5 w7 w8 w9
 clear w1 w2 w5 w7 w8 w9
 have L8:=L8k.ext X9
 have g8:=(X9.old b8 (by omega)).trans g_
 obtain⟨pu,nu,cu,xu,rfl⟩:=ou.form
 have nX9:=X9.next
 repeat refine W.g ?_
 refine W.stn (vs:=[.slice pu nu cu xu]) (cs':=[.int .i64 s.w.hz,m1,m2,m3,m4,m5,m6,p,d_,vr,t,z,ul,.slice pu nu cu xu]) rfl rfl rfl rfl rfl rfl g8 rfl λM nM gM kM=> ?_
 have kM:∀a,a≠b8->M.get a=h9.get a:=kM
 have nXB:=XB.next
 have XM:Ext h M:=Ext.store (XB.trans X9) nM kM (by have:=XA.next;omega) (by omega)
 obtain⟨P4,PL,_⟩:=ot M (by omega) λa h1 h2=>(kM a (by omega)).trans ((X9.old a (by omega)).trans (X_.old a (by omega)))
 have b7lt:b7<h6.next:=L7b
 have L7:=(L7k.ext X9).of_get (kM b7 (by omega)) (by omega)
 have L1:=(L1k.ext X9).of_get (kM h.next (by omega)) (by omega)
 have uid:∀a,idOf (.slice pu nu cu xu)=[a]->a≠b8:=λa ha=>by
  have:=OwnR.idlt ou ha
  omega
 have sU:Sl M (.slice pu nu cu xu) (insG x s.gone):=sl_oth (OwnR.toSl (α:=Int×Int) ou) (by omega) λa ha=>kM a (uid a ha)
 obtain⟨o,ho⟩:∃o:StateD,o=s.without x:=⟨_,rfl⟩
 have ro:Rp.R M [.int .i64 s.w.hz,m1,m2,m3,m4,m5,m6,p,d_,vr,t,z,ul,.slice pu nu cu xu] o:=by
  rw[ho]
  exact⟨m1,m2,m3,m4,m5,m6,p,d_,vr,t,z,ul,_,rfl,P4.rp,OwnR.toSl (α:=LateD) PL,sU⟩
 have L8:LocE M b8 0 [.int .i64 s.w.hz,m1,m2,m3,m4,m5,m6,p,d_,vr,t,z,ul,.slice pu nu cu xu]:=⟨_,_,gM,by omega,rfl⟩
 have okO:o.Ok:=by
  have w:=StateD.without_ok lok gok hone hn
  rw[ho]
  exact⟨c,tk,hmany,w.1,w.2⟩
 have ow:o.w=s.w:=by rw[ho];rfl
 have og:o.gone=insG x s.gone:=by rw[ho];rfl
 have lo_len:o.gone.length<=1048576:=by
  rw[og,show(insG x s.gone).length=s.gone.length+1 from insG_len]
  omega
 have eO:o.goes=s.goes.take k++s.goes.drop (k+1):=by
  rw[ho,hx,her]
  exact StateD.without_goes q0
 have sA:=(sA.ext X9)
 clear P4 PL ou sU g8 ot
 refine W.k5 1 2 5 7 8 λT=> ?_
 have sA:Sl M va s.goes:=sA3.ext (Ext.store (((X5.trans X6).trans X_).trans X9) nM kM (by have e5:=X5.next;have e6:=X6.next;omega) (by omega))
 repeat refine W.g ?_
 refine W.call rfl rfl rfl (runsS_w (s:=o) (Rp.ext (Ext.refl _) ro) (rh.ext XM) (XM.fr fr) (by rw[ow];exact sm) (by rw[ow];exact sl) lo_len λhA vb eb XA1 eB rB _=> ?_)
 obtain rfl:=eB.2 okO
 obtain⟨cssB,obB⟩:=rB rfl
 have sB:=obB.toSl
 have sA:=sA.ext XA1
 have L1:=L1.ext XA1
 have L7:=L7.ext XA1
 have L8:=L8.ext XA1
 have XD:=XM.trans XA1
 refine W.k6 1 2 5 7 8 114 λT=> ?_
 clear rB obB
 repeat refine W.g ?_
 refine W.call rfl rfl rfl (runE_w (s:=o) (id:=x) (Rp.ext XA1 ro) (rh.ext XD) (XD.fr fr) (by rw[ow];exact sm) (by rw[ow];exact sl) lo_len okO (by rw[ow];exact hone) λhB rs XB1 rr=> ?_)
 obtain⟨x1,x2,rfl,y1,y2⟩:=id rr
 have sB:=sB.ext XB1
 have sA:=sA.ext XB1
 have L1:=L1.ext XB1
 have L7:=L7.ext XB1
 have L8:=L8.ext XB1
 have XE:=XD.trans XB1
 have erun:(o.runX x).1=A:=by
  rw[ho,hAe,hx]
  show((s.w.oneX r.trip r.no).1.lates (delaysL s.late r.id)).1=_
  rw[one];rfl
 rw[erun]at rr y1 y2 ⊢
 refine W.k8 1 2 5 7 8 12 13 120 λT=> ?_
 repeat (first|refine W.g ?_|refine W.m λh_ X_ n_ g_ L_=> ?_)
 have L1:=L1.ext X_
 have L7:=L7.ext X_
 have L8:=L8.ext X_
 have sA:=sA.ext X_
 have sB:=sB.ext X_
 have rr:=Rp.ext X_ rr
 have L14:=L_
 have XF:=XE.trans X_
 have XMF:=(XA1.trans XB1).trans X_
 obtain⟨HF,hHF⟩:∃M,M=h_:=⟨_,rfl⟩
 rw[<-hHF]at L1 L7 L8 sA sB rr L14 XF XMF
 rw[<-hHF]
 have rlong:=runs_long c hr
 clear L_ g_ X_ n_ hHF
 refine W.k9 1 2 5 7 8 12 13 14 15 λT=> ?_
 have ds:=DX.start (XF.fr fr)
 repeat (first|refine W.gd ?_|refine W.e λr_ h_ ds_ s_=> ?_)
 refine W.dcallZ ds_ rfl rfl rfl rfl (gone_w (s:=o) (Rp.ext (XMF.trans ds_.x) ro) (by omega) x ((XF.trans ds_.x).fr fr) λhC b1 XC1 hb1=>DZ.val XC1 λq1 n1 ds1 t1=> ?_)
 obtain rfl:b1=true:=hb1.2 (by rw[og];exact insG_mem.2 (.inl rfl))
 repeat (first|refine W.gd ?_|refine W.e λr_ h_ ds_ s_=> ?_)
 refine W.dcallZ ds_ rfl rfl rfl rfl (gone_w (s:=s) (Rp.ext (XF.trans ds_.x) ss0) (by omega) x ((XF.trans ds_.x).fr fr) λhD b2 XD2 hb2=>DZ.val XD2 λq2 n2 ds2 t2=> ?_)
 obtain rfl:b2=false:=by
  cases b2
  ·rfl
  ·exact absurd (hb2.1 rfl) hn
 repeat (first|refine W.gd ?_|refine W.e λr_ h_ ds_ s_=> ?_)
 refine W.dixR sA hk rfl rfl rfl rfl rfl rfl rfl λi1 o1 e1 M1 r1=> ?_
 rw[eA]at r1
 obtain⟨x3,x4,rfl,y3,y4⟩:=id r1
 repeat refine W.e λr_ h_ ds_ s_=> ?_
 refine W.dcallZ ds_ rfl rfl rfl rfl (runSame_w (d:=A) (Rp.ext ds_.x rr) (Rp.ext ds_.x r1) ((XF.trans ds_.x).fr fr) (by omega) (by omega) λhG XG1=>DZ.val XG1 λq3 n3 ds3 t3=> ?_)
 repeat refine W.gd ?_
 obtain⟨cssA,sgA,hlA,hrA⟩:=id sA
 refine W.dslu sgA (k:=k) (by omega) rfl rfl rfl rfl rfl rfl rfl λp1 sp1=> ?_
 have s1:Sl n3 p1 (s.goes.take k):=⟨cssA.take k,sp1.ext ds3.x,by rw[List.length_take,List.length_take,hlA],λj e d he hd=>by
  rw[List.getElem?_take]at he hd
  split at he
  ·rename_i hj
   rw[if_pos hj]at hd
   exact Rp.ext ds3.x (hrA j e d he hd)
  ·cases he⟩
 refine W.dcallZ ds3 rfl rfl rfl rfl (own_run s1 (by rw[List.length_take];omega) λhH ov1 cO XH OO hlO hrO=>DZ.val XH λq4 n4 ds4 t4=> ?_)
 repeat refine W.gd ?_
 refine W.dslf sgA (k:=k+1) (by omega) rfl rfl rfl rfl rfl rfl rfl λp2 sp2=> ?_
 have XO:=XH.trans t4.ext
 have hl1:cO.length=k:=by rw[hlO,List.length_take];omega
 refine W.apD (H:=n3) ds4.hri XO (OO.ext t4.ext) (sp2.ext ds4.x) rfl rfl rfl rfl rfl rfl rfl rfl rfl rfl rfl rfl rfl (by
  rw[hl1,List.length_drop,hlA]
  show(_+_)*64<=_
  omega) λr6 w6 hK hr6 XK nnK _ OK _ _=> ?_
 have s6:Sl hK w6 o.goes:=by
  rw[eO]
  refine⟨cO++cssA.drop (k+1),OK.sl,by rw[List.length_append,List.length_append,hlO,List.length_drop,List.length_drop,hlA],λj e d he hd=> ?_⟩
  by_cases hj:j<cO.length
  ·rw[List.getElem?_append_left hj]at he
   rw[List.getElem?_append_left (by omega)]at hd
   exact Rp.ext XK (hrO j e d he hd)
  ·rw[List.getElem?_append_right (by omega),List.getElem?_drop]at he
   rw[List.getElem?_append_right (by omega),List.getElem?_drop,<-hlO]at hd
   exact Rp.ext (ds3.x.trans XK) (hrA _ e d he hd)
 have LGo:o.LG:=⟨okO.2.2.1,okO.2.2.2.1.1,okO.2.2.2.1.2.1,okO.2.2.2.1.2.2,okO.2.2.2.2.1,okO.2.2.2.2.2⟩
 have hlen:∀y∈o.goes,y.arr.length<=1099511627776/\y.dep.length<=1099511627776:=λy hy=>by
  obtain⟨j,hj,rfl⟩:=List.getElem_of_mem hy
  obtain⟨_,ej,hjr⟩:=StateD.goes_at hj
  have l1:=runs_long okO.1 hjr
  have l2:=LGo.keep (runs_one okO.1 hjr)
  rw[ej]
  omega
 have gol:o.goes.length<=1099511627776:=by
  rw[eO,List.length_append,List.length_take,List.length_drop]
  omega
 refine W.dcallA hr6 rfl rfl rfl rfl (runsSame_w (l:=o.goes) (sB.ext (ds3.x.trans XK)) s6 (((XF.trans ds3.x).trans XK).fr fr) gol hlen λhZ XZ1=>DA.val XZ1.next λq7 n7 hr7 t7=> ?_)
 try refine W.dv ?_
 repeat refine W.g ?_
 exact⟨_,rfl⟩
end
end Go.Proofs.YtnjkaahbhebaeaaGreatDoor
