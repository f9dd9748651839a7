/- A trip's run, if it is there: by the program. No condition but that the world may be and memory beyond the next number is empty. -/
import Derived.Test.YtnjkaahbhebaeaaGreatDoorXU
import Derived.Test.YtnjkaahbhebaeaaGreatDoorEC
import Derived.Test.YtnjkaahbhebaeaaGreatDoorXZ
set_option linter.unusedVariables false
set_option linter.unusedSimpArgs false
set_option maxRecDepth 100000
namespace Go.Proofs.YtnjkaahbhebaeaaGreatDoor
open Go Go.CM Go.CM.Tt
noncomputable section
set_option maxHeartbeats 16000000
theorem BodyQ.cellE {E:Env} {tm:Tm} {h:Heap} {Q:R->Prop} {rs:List ResultVar} {a b i off:Nat} {t:TypeId} {s:TyS} {cs:List CV} {ro:Bool} {v v2:CV} (hrs:rs=[.cell a t,.tmp b]) (ha:tm.look a= .ptr (some (i,off))) (hb:tm.look b=v2) (hg:h.get i=some (.cells cs ro)) (hs:E.ty t=some s) (hp:CM.part cs off s.size s.agg=some v)
  (q:Q (.val (.tup [v,v2]) h)):BodyQ E rs Q (.code .ret tm h):=by
 show Q (kBody E rs (.code .ret tm h))
 have e:resultVals E h tm rs=some [v,v2]:=by
  subst hrs
  have hl:CM.load E h t i off=some v:=by
   unfold CM.load loadB;simp only[hg,hs,hp]
  have h3:tm.get a=some (.ptr (some (i,off))):=by
   have:tm.get a=some (tm.look a):=rfl;rw[this,ha]
  have h4:tm.get b=some v2:=by
   have:tm.get b=some (tm.look b):=rfl;rw[this,hb]
  unfold resultVals;simp only[h3,hl];unfold resultVals;simp only[h4,resultVals,Option.getD_some]
 unfold kBody;simp only[e];exact q
theorem own0 {h:Heap} {lo:Nat}:OwnG h lo [(1,.slice none 0 0 0,([]:List Int).map Flat.enc),(1,.slice none 0 0 0,([]:List Int).map Flat.enc)] []:=⟨λr hr=>by
 simp only[List.mem_cons,List.not_mem_nil,or_false]at hr;rcases hr with rfl|rfl<;>exact OwnR.nil,by simp[idsR,idOf],λk hk=>by cases hk⟩
theorem _root_.Go.CM.Tt.OwnG.run {h:Heap} {lo:Nat} {vA vD:CV} {arr dep:List Int} {t n:Int} (O:OwnG h lo [(1,vA,arr.map Flat.enc),(1,vD,dep.map Flat.enc)] []):Rp.R h [.int .i64 t,.int .i64 n,vA,vD] (⟨t,n,arr,dep⟩:RunD):=
 ⟨vA,vD,rfl,(O.o (1,vA,arr.map Flat.enc) (by simp)).toSl (α:=Int),(O.o (1,vD,dep.map Flat.enc) (by simp)).toSl (α:=Int)⟩
theorem run0_w {h:Heap} {tm:Tm} {Q:R->Prop} {cs:List CV} (q:∀h',Ext h h'->h'.next=h.next+1->LocE h' h.next 0 cs->Q (.val (.fn 296 [] [.ptr (some (h.next,0))]) h')):W E1 (.call (.fn 232 [] []) [.agg cs]) tm h Q:=by
 refine W.fn (s:=fnOf Tryz.f232) rfl rfl rfl rfl ?_;repeat (refine W.seq ?_)
 refine W.region ?_;refine W.box rfl rfl rfl λH1 X1 n1 g1 L1=> ?_;repeat refine W.g ?_
 exact q _ X1 n1 L1
theorem end_w {h:Heap} {tm:Tm} {Q:R->Prop} {cs:List CV} {t0 n0:Int} {arr dep:List Int} {n:Nat} (hn:arr.length=n+1) (hm:n<=1099511627776) (rr:Rp.R h cs (⟨t0,n0,arr,dep⟩:RunD)) (q:∀h',Ext h h'->Q (.val (.int .i64 (arr.getD n 0)) h')):W E1 (.call (.fn 233 [] []) [.agg cs]) tm h Q:=by
 obtain⟨vA,vD,rfl,s1,s2⟩:=rr;have s1:Sl h vA arr:=s1;refine W.fn (s:=fnOf Tryz.f233) rfl rfl rfl rfl ?_;have hl:(arr.length:Int)-1=(n:Int):=by omega
 have er:arr.getD n 0=arr[n]'(by omega):=by simp[List.getD_eq_getElem?_getD,show n<arr.length by omega]
 repeat (first|refine W.g ?_|refine W.m λh_ X_ n_ g_ L_=> ?_)
 rw[hl];refine W.ixF s1 (j:=n) (by omega) rfl rfl rfl rfl rfl rfl rfl λi1 o1 M1=> ?_;replace M1:=show LocE h i1 o1 [.int .i64 (arr.getD n 0)]from by rw[er];exact M1
 repeat refine W.g ?_
 exact q _ X_
theorem one_w {h:Heap} {tm:Tm} {Q:R->Prop} {cs:List CV} {w:WorldD} {t:TripW} {r:RouteW} {jr:Nat} (rw0:Rp.R h cs w) (fr:Fresh h) (hz:TickOk w.hz) (j:Nat) (T:w.Trip j t r jr) (no:Int)
  (q:∀h' t0 n0 vA vD arr dep (b:Bool),Ext h h'->(b=true↔w.hasAt j no)->OwnG h' h.next [(1,vA,List.map Flat.enc arr),(1,vD,List.map Flat.enc dep)] []->(b=true->(⟨t0,n0,arr,dep⟩:RunD)=w.runAt j no)->Q (.val (.tup [.agg [.int .i64 t0,.int .i64 n0,vA,vD],.bool b]) h')):
  W E1 (.call (.fn 163 [] []) [.agg cs,.int .i64 (j:Int),.int .i64 no]) tm h Q:=by
 obtain⟨v1,v2,v3,v4,v5,v6,v7,v8,v9,v10,v11,rfl,s1,s2,s3,s4,s5,s6,s7,s8,s9,s10,s11⟩:=rw0;have Th:=T.has (no:=no);have Tr:=T.run (no:=no);obtain⟨⟨hj,ht⟩,⟨hjr,hr⟩,er,tf,tv,tu,fu,tame,⟨n,hn,hl⟩,_,_,_⟩:=T;obtain⟨hz0,hz1⟩:=hz;refine W.fn (s:=fnOf Tryz.f163) rfl rfl rfl rfl ?_;repeat (refine W.seq ?_)
 refine W.region ?_;refine W.box rfl rfl rfl λH1 X1 n1 g1 L1=> ?_;refine W.al rfl rfl rfl λH2 X2 n2 g2 L2=> ?_;have g2:H2.get H1.next=some (.cells [.int .i64 0,.int .i64 0,.slice none 0 0 0,.slice none 0 0 0] false):=g2;have L6:LocE H2 H1.next 0 [.int .i64 0,.int .i64 0,.slice none 0 0 0,.slice none 0 0 0]:=⟨_,_,g2,by omega,rfl⟩;clear L2;repeat refine W.g ?_
 refine W.ixF s10 hj rfl rfl rfl rfl rfl rfl rfl λi1 o1 M1=> ?_;replace M1:=show LocE h i1 o1 [.int .i64 (jr:Int),.int .i64 t.frm,.int .i64 t.evr,.int .i64 t.untl]from by rw[<-er,<-ht];exact M1
 repeat (first|refine W.g ?_|refine W.m λh_ X_ n_ g_ L_=> ?_)
 have L8:LocE h_ H2.next 0 [.int .i64 (jr:Int),.int .i64 t.frm,.int .i64 t.evr,.int .i64 t.untl]:=L_;have g6:=(X_.old H1.next (by omega)).trans g2;have XK:Ext h h_:=(X1.trans X2).trans X_;have L1:=(L1.ext X2).ext X_;have L6:=L6.ext X_;obtain⟨b6,hb6⟩:∃b,b=H1.next:=⟨_,rfl⟩;obtain⟨b8,hb8⟩:∃b,b=H2.next:=⟨_,rfl⟩;obtain⟨K,hK⟩:∃K,K=h_:=⟨_,rfl⟩;rw[<-hb6,<-hK]at g6 L6;rw[<-hb8,<-hK]at L8;rw[<-hK]at L1 XK n_;rw[<-hK];simp only[<-hb6,<-hb8];have hb1:h.next<b6:=by omega
 have hb2:b6<K.next:=by omega
 have nopost:¬w.has t r no->∀{M:Heap},Ext h M->Q (.val (.tup [.agg [.int .i64 0,.int .i64 0,.slice none 0 0 0,.slice none 0 0 0],.bool false]) M):=λhh M XM=>q M 0 0 _ _ [] [] false XM (Iff.intro (λh=>by cases h) (λh=>absurd (Th.1 h) hh)) own0 (λh=>by cases h);clear g1 g2 g_ X1 X2 X_ n1 n2 n_ M1 L_ hK;refine W.k6 1 2 3 6 8 18 λT=> ?_;by_cases c1:no<0
 ·repeat refine W.g ?_
  refine W.stn (vs:=[.int .i64 0,.int .i64 0,.slice none 0 0 0,.slice none 0 0 0]) (cs':=[.int .i64 0,.int .i64 0,.slice none 0 0 0,.slice none 0 0 0]) rfl rfl rfl rfl rfl rfl g6 rfl λM nM gM kM=> ?_;repeat refine W.g ?_
  refine BodyQ.cellE rfl rfl rfl gM rfl rfl ?_;exact nopost (λhh=>by have:=hh.1;omega) (Ext.store XK nM kM (by omega) (by omega))
 repeat refine W.g ?_
 refine W.call rfl rfl rfl (count_w t.frm t.evr t.untl tf tv tu ?_);refine W.k8 1 2 3 6 8 18 19 26 λT=> ?_;by_cases c2:countT t.frm t.evr t.untl<=no
 ·repeat refine W.g ?_
  refine W.stn (vs:=[.int .i64 0,.int .i64 0,.slice none 0 0 0,.slice none 0 0 0]) (cs':=[.int .i64 0,.int .i64 0,.slice none 0 0 0,.slice none 0 0 0]) rfl rfl rfl rfl rfl rfl g6 rfl λM nM gM kM=> ?_;repeat refine W.g ?_
  refine BodyQ.cellE rfl rfl rfl gM rfl rfl ?_;exact nopost (λhh=>by have:=hh.2.1;omega) (Ext.store XK nM kM (by omega) (by omega))
 have k2:=(countT_lt tv.1 (show(0:Int)<=no by omega)).1 (show no<countT t.frm t.evr t.untl by omega);have u2:=tu.2;have f2:=tf.1;have pos:0<=no*t.evr:=Int.mul_nonneg (by omega) tv.1;have lp:0<=r.long:=(tame.2.2 _).1;repeat refine W.g ?_
 refine W.call rfl rfl rfl (tickAt_w t.frm t.evr no tf tv (by omega) k2.2 (by omega) ?_);obtain⟨at0,hat⟩:∃a,a=t.frm+no*t.evr:=⟨_,rfl⟩;rw[<-hat]at k2 Tr ⊢;refine W.k6 1 2 3 6 8 36 λT=> ?_;by_cases c3:w.hz<at0
 ·repeat refine W.g ?_
  refine W.stn (vs:=[.int .i64 0,.int .i64 0,.slice none 0 0 0,.slice none 0 0 0]) (cs':=[.int .i64 0,.int .i64 0,.slice none 0 0 0,.slice none 0 0 0]) rfl rfl rfl rfl rfl rfl g6 rfl λM nM gM kM=> ?_;repeat refine W.g ?_
  refine BodyQ.cellE rfl rfl rfl gM rfl rfl ?_;exact nopost (λhh=>by have:=hh.2.2;omega) (Ext.store XK nM kM (by omega) (by omega))
 repeat refine W.g ?_
 refine W.ixR s9 hjr rfl rfl rfl rfl rfl rfl rfl λi2 o2 e2 M2 re2=> ?_;rw[hr]at re2;obtain⟨z1,z2,z3,ee,_⟩:=id re2;subst ee;repeat refine W.g ?_
 refine W.call rfl rfl rfl (run0_w λH4 X4 n4 L4=> ?_);refine W.k6 1 2 3 6 9 54 λT=> ?_;repeat refine W.g ?_
 refine W.call rfl rfl rfl (run1_w at0 L4 (Rp.ext (XK.trans X4) re2) tame ⟨by omega,by omega⟩ λH5 vA vD X5 O5=> ?_);have nX4:=X4.next;have nX5:=X5.next;have g65:=((X4.trans X5).old b6 hb2).trans g6;have L15:=L1.ext (X4.trans X5);clear L6 L1 L8 L4 M2;refine W.k5 1 2 3 6 56 λT=> ?_;repeat (first|refine W.g ?_|refine W.m λh_ X_ n_ g_ L_=> ?_|refine W.n λh_ X_ n_ g_ S_=> ?_)
 refine W.stn (vs:=[.int .i64 0,.int .i64 0,vA,vD]) (cs':=[.int .i64 0,.int .i64 0,vA,vD]) rfl rfl rfl rfl rfl rfl g65 rfl λM1 m1 gM1 kM1=> ?_;repeat refine W.g ?_
 refine W.stn (vs:=[.int .i64 (j:Int)]) (cs':=[.int .i64 (j:Int),.int .i64 0,vA,vD]) rfl rfl rfl rfl rfl rfl gM1 rfl λM2 m2 gM2 kM2=> ?_;repeat refine W.g ?_
 refine W.stn (vs:=[.int .i64 no]) (cs':=[.int .i64 (j:Int),.int .i64 no,vA,vD]) rfl rfl rfl rfl rfl rfl gM2 rfl λM3 m3 gM3 kM3=> ?_;have kM:∀k,k≠b6->M3.get k=H5.get k:=λk hk=>(kM3 k hk).trans ((kM2 k hk).trans (kM1 k hk));have OM:=(O5.keep (h':=M3) (by omega) λk hk=>kM k (by have:=(O5.lt k hk).1;omega));have XM:Ext h M3:=Ext.store (Ext.store (Ext.store ((XK.trans X4).trans X5) m1 kM1 (by omega) (by omega)) m2 kM2 (by omega) (by omega)) m3 kM3 (by omega) (by omega);have L6:LocE M3 b6 0 [.int .i64 (j:Int),.int .i64 no,vA,vD]:=⟨_,_,gM3,by omega,rfl⟩
 have L1:LocE M3 h.next 0 [.int .i64 w.hz,v1,v2,v3,v4,v5,v6,v7,v8,v9,v10,v11]:=by
  obtain⟨cs0,ro0,a1,a2,a3⟩:=L15;exact⟨cs0,ro0,(kM _ (by omega)).trans a1,by omega,a3⟩
 have el:(r.arrs at0 r.rides.length).getD r.rides.length 0=at0+r.long:=by
  rw[List.getD_eq_getElem?_getD,hn,RouteW.arrs_at r at0 (by omega),hl,Int.add_assoc];rfl
 clear L15 gM1 gM2 g65 g6 kM1 kM2 kM3;refine W.k4 1 2 3 6 λT=> ?_;repeat refine W.g ?_
 have ds:=DX.start (XM.fr fr);repeat refine W.e λr_ h_ ds_ s_=> ?_
 refine W.dcallZ ds_ rfl rfl rfl rfl (end_w (n:=r.rides.length) (RouteW.arrs_len _ _ _) (by have:=tame.1;omega) (Rp.ext ds_.x (OM.run (t:=(j:Int)) (n:=no))) λh1 Y1=>DZ.val Y1 λq1 N1 ds1 s1=> ?_);rw[el];try refine W.dv ?_
 refine W.dlkE (k:=0) L1 ds1 (Ext.refl _) rfl rfl rfl rfl rfl rfl rfl λN2 s2 X2=> ?_;try refine W.dv ?_
 have gN:=(X2.old b6 (by omega)).trans gM3;have nX2:=X2.next
 refine W.dstG (vs:=[.int .i64 (j:Int),.int .i64 no,vA,vD]) (cs':=[.int .i64 (j:Int),.int .i64 no,vA,vD]) (nr:=[2,1,0]) (idx:=[4,2,1,0]) (λr hr=>by
  rcases List.mem_cons.1 hr with rfl|hr
  ·simp[recIdx]
  ·exact List.mem_cons_of_mem _ (ds1.hri r hr)) (λr hr=>by
  rcases List.mem_cons.1 hr with rfl|hr
  ·exact .inr ⟨_,_,_,rfl,λk hk=>by rw[List.mem_singleton.1 hk];omega,λk hk=>by rw[List.mem_singleton.1 hk];omega⟩
  ·exact .inl (ds1.hri r hr)) rfl rfl rfl rfl rfl rfl rfl gN rfl λq3 N3 hr3 s3=> ?_
 try refine W.dv ?_
 have kN:∀k,k≠b6->N3.get k=N2.get k:=λk hk=>by rw[s3.get,Heap.get_put,if_neg (Ne.symm hk)]
 have gN3:N3.get b6=some (.cells [.int .i64 (j:Int),.int .i64 no,vA,vD] false):=by rw[s3.get,put_same]
 have nN3:N3.next=N2.next:=s3.next;have ON:=(OM.ext X2).keep (h':=N3) (by omega) λk hk=>kN k (by have:=(OM.lt k hk).1;omega);repeat refine W.g ?_
 refine BodyQ.cellE rfl rfl rfl gN3 rfl rfl ?_
 exact q N3 (j:Int) no vA vD _ _ (decide (at0+r.long<=w.hz)) (Ext.store (XM.trans X2) nN3 kN (by omega) (by omega)) (by
  rw[decide_eq_true_iff,Th];exact Iff.intro (λh=>⟨by omega,by omega,by omega⟩) (λh=>by have:=h.2.2;omega)) (ON.low (by omega)) (λ_=>Tr.symm)
end
end Go.Proofs.YtnjkaahbhebaeaaGreatDoor
