/- A trip's run, if it is there: by the program. No condition but that the world may be and memory beyond the next number is empty. -/
import Derived.Test.YtfheibkikpefkaaGreatDoorXU
import Derived.Test.YtfheibkikpefkaaGreatDoorEC
import Derived.Test.YtfheibkikpefkaaGreatDoorXZ
set_option linter.unusedVariables false
set_option linter.unusedSimpArgs false
namespace Go.Proofs.YtfheibkikpefkaaGreatDoor
open Go Go.CM Go.CM.Tt
noncomputable section
set_option maxHeartbeats 16000000
theorem aQ {E:Env} {tm:Tm} {h:Heap} {Q:R->Prop} {rs:List ResultVar} {a b i off:Nat} {t:TypeId} {s:TyS} {cs:List CV} {ro:Bool} {v v2:CV} (hrs:rs=[.cell a t,.tmp b]) (ha:tm.look a= .ptr (some (i,off))) (hb:tm.look b=v2) (hg:h.get i=some (.cells cs ro)) (hs:E.ty t=some s) (hp:CM.part cs off s.size s.agg=some v)
  (q:Q (.val (.tup [v,v2]) h)):BodyQ E rs Q (.code .ret tm h):=by
 show Q (mU E rs (.code .ret tm h))
 have e:aV E h tm rs=some [v,v2]:=by
  subst hrs
  have hl:CM.load E h t i off=some v:=by
   unfold CM.load lY;simp only[hg,hs,hp]
  have h3:tm.get a=some (.ptr (some (i,off))):=by
   have:tm.get a=some (tm.look a):=rfl;rw[this,ha]
  have h4:tm.get b=some v2:=by
   have:tm.get b=some (tm.look b):=rfl;rw[this,hb]
  unfold aV;simp only[h3,hl];unfold aV;simp only[h4,aV,Option.getD_some]
 unfold mU;simp only[e];exact q
theorem aPj {h:Heap} {lo:Nat}:OwnG h lo [(1,.slice none 0 0 0,([]:List Int).map Flat.enc),(1,.slice none 0 0 0,([]:List Int).map Flat.enc)] []:=⟨λr hr=>by
 simp only[List.mem_cons,List.not_mem_nil,or_false]at hr;rcases hr with rfl|rfl<;>exact OwnR.nil,by simp[idsR,idOf],λk hk=>by cases hk⟩
theorem _root_.Go.CM.Tt.OwnG.run {h:Heap} {lo:Nat} {vA vD:CV} {arr dep:List Int} {t n:Int} (O:OwnG h lo [(1,vA,arr.map Flat.enc),(1,vD,dep.map Flat.enc)] []):Rp.R h [.int .i64 t,.int .i64 n,vA,vD] (⟨t,n,arr,dep⟩:RunD):=
 ⟨vA,vD,rfl,(O.o (1,vA,arr.map Flat.enc) (by simp)).toSl (α:=Int),(O.o (1,vD,dep.map Flat.enc) (by simp)).toSl (α:=Int)⟩
theorem aTq {h:Heap} {tm:Tm} {Q:R->Prop} {cs:List CV} (q:∀h',Ext h h'->h'.next=h.next+1->LocE h' h.next 0 cs->Q (.val (.fn 142 [] [.ptr (some (h.next,0))]) h')):W E1 (.call (.fn 109 [] []) [.agg cs]) tm h Q:=by
 refine W.fn (s:=aB Tryz.f109) rfl rfl rfl rfl ?_;repeat (refine W.seq ?_)
 refine W.region ?_;refine W.box rfl rfl rfl λH1 X1 n1 g1 L1=> ?_;repeat refine W.g ?_
 exact q _ X1 n1 L1
theorem aDd {h:Heap} {tm:Tm} {Q:R->Prop} {cs:List CV} {t0 n0:Int} {arr dep:List Int} {n:Nat} (hn:arr.length=n+1) (hm:n<=1099511627776) (rr:Rp.R h cs (⟨t0,n0,arr,dep⟩:RunD)) (q:∀h',Ext h h'->Q (.val (.int .i64 (arr.getD n 0)) h')):W E1 (.call (.fn 66 [] []) [.agg cs]) tm h Q:=by
 obtain⟨vA,vD,rfl,s1,s2⟩:=rr;have s1:Sl h vA arr:=s1;refine W.fn (s:=aB Tryz.f66) rfl rfl rfl rfl ?_;have hl:(arr.length:Int)-1=(n:Int):=by omega
 have er:arr.getD n 0=arr[n]'(by omega):=by simp[List.getD_eq_getElem?_getD,show n<arr.length by omega]
 repeat (first|refine W.g ?_|refine W.m λh_ X_ n_ g_ L_=> ?_)
 rw[hl];refine eN s1 (j:=n) (by omega) rfl rfl rfl rfl rfl rfl rfl λi1 o1 M1=> ?_;replace M1:=show LocE h i1 o1 [.int .i64 (arr.getD n 0)]from by rw[er];exact M1
 repeat refine W.g ?_
 exact q _ X_
theorem aLj {h:Heap} {tm:Tm} {Q:R->Prop} {cs:List CV} {w:WorldD} {t:TripW} {r:RouteW} {jr:Nat} (rw0:Rp.R h cs w) (fr:Fresh h) (hz:TickOk w.hz) (j:Nat) (T:w.Trip j t r jr) (no:Int)
  (q:∀h' t0 n0 vA vD arr dep (b:Bool),Ext h h'->(b=true↔w.hasAt j no)->OwnG h' h.next [(1,vA,List.map Flat.enc arr),(1,vD,List.map Flat.enc dep)] []->(b=true->(⟨t0,n0,arr,dep⟩:RunD)=w.runAt j no)->Q (.val (.tup [.agg [.int .i64 t0,.int .i64 n0,vA,vD],.bool b]) h')):
  W E1 (.call (.fn 64 [] []) [.agg cs,.int .i64 (j:Int),.int .i64 no]) tm h Q:=by
 obtain⟨v1,v2,v3,v4,v5,v6,v7,v8,v9,v10,v11,rfl,s1,s2,s3,s4,s5,s6,s7,s8,s9,s10,s11⟩:=rw0;have Th:=T.has (no:=no);have Tr:=T.run (no:=no);obtain⟨⟨hj,ht⟩,⟨hjr,hr⟩,er,tf,tv,tu,fu,tame,⟨n,hn,hl⟩,_,_,_⟩:=T;obtain⟨hz0,hz1⟩:=hz;refine W.fn (s:=aB Tryz.f64) rfl rfl rfl rfl ?_;repeat (refine W.seq ?_)
 refine W.region ?_;refine W.box rfl rfl rfl λH1 X1 n1 g1 L1=> ?_;refine jV rfl rfl rfl λH2 X2 n2 g2 L2=> ?_;have g2:H2.get H1.next=some (.cells [.int .i64 0,.int .i64 0,.slice none 0 0 0,.slice none 0 0 0] false):=g2;have L6:LocE H2 H1.next 0 [.int .i64 0,.int .i64 0,.slice none 0 0 0,.slice none 0 0 0]:=⟨_,_,g2,by omega,rfl⟩;clear L2;repeat refine W.g ?_
 refine eN s10 hj rfl rfl rfl rfl rfl rfl rfl λi1 o1 M1=> ?_;replace M1:=show LocE h i1 o1 [.int .i64 (jr:Int),.int .i64 t.frm,.int .i64 t.evr,.int .i64 t.untl]from by rw[<-er,<-ht];exact M1
 repeat (first|refine W.g ?_|refine W.m λh_ X_ n_ g_ L_=> ?_)
 have L8:LocE h_ H2.next 0 [.int .i64 (jr:Int),.int .i64 t.frm,.int .i64 t.evr,.int .i64 t.untl]:=L_;have g6:=(X_.old H1.next (by omega)).trans g2;have XK:Ext h h_:=(X1.trans X2).trans X_;have L1:=(L1.ext X2).ext X_;have L6:=L6.ext X_;obtain⟨b6,hb6⟩:∃b,b=H1.next:=⟨_,rfl⟩;obtain⟨b8,hb8⟩:∃b,b=H2.next:=⟨_,rfl⟩;obtain⟨K,hK⟩:∃K,K=h_:=⟨_,rfl⟩;rw[<-hb6,<-hK]at g6 L6;rw[<-hb8,<-hK]at L8;rw[<-hK]at L1 XK n_;rw[<-hK];simp only[<-hb6,<-hb8];have hb1:h.next<b6:=by omega
 have hb2:b6<K.next:=by omega
 have nopost:¬w.has t r no->∀{M:Heap},Ext h M->Q (.val (.tup [.agg [.int .i64 0,.int .i64 0,.slice none 0 0 0,.slice none 0 0 0],.bool false]) M):=λhh M XM=>q M 0 0 _ _ [] [] false XM (Iff.intro (λh=>by cases h) (λh=>absurd (Th.1 h) hh)) aPj (λh=>by cases h);clear g1 g2 g_ X1 X2 X_ n1 n2 n_ M1 L_ hK;refine fT 1 2 3 6 8 18 λT=> ?_;by_cases c1:no<0
 ·repeat refine W.g ?_
  refine aK (vs:=[.int .i64 0,.int .i64 0,.slice none 0 0 0,.slice none 0 0 0]) (cs':=[.int .i64 0,.int .i64 0,.slice none 0 0 0,.slice none 0 0 0]) rfl rfl rfl rfl rfl rfl g6 rfl λM nM gM kM=> ?_;repeat refine W.g ?_
  refine aQ rfl rfl rfl gM rfl rfl ?_;exact nopost (λhh=>by have:=hh.1;omega) (Ext.store XK nM kM (by omega) (by omega))
 repeat refine W.g ?_
 refine W.call rfl rfl rfl (aAv t.frm t.evr t.untl tf tv tu ?_);refine aDo 1 2 3 6 8 18 19 26 λT=> ?_;by_cases c2:bD t.frm t.evr t.untl<=no
 ·repeat refine W.g ?_
  refine aK (vs:=[.int .i64 0,.int .i64 0,.slice none 0 0 0,.slice none 0 0 0]) (cs':=[.int .i64 0,.int .i64 0,.slice none 0 0 0,.slice none 0 0 0]) rfl rfl rfl rfl rfl rfl g6 rfl λM nM gM kM=> ?_;repeat refine W.g ?_
  refine aQ rfl rfl rfl gM rfl rfl ?_;exact nopost (λhh=>by have:=hh.2.1;omega) (Ext.store XK nM kM (by omega) (by omega))
 have k2:=(kL tv.1 (show(0:Int)<=no by omega)).1 (show no<bD t.frm t.evr t.untl by omega);have u2:=tu.2;have f2:=tf.1;have pos:0<=no*t.evr:=Int.mul_nonneg (by omega) tv.1;have lp:0<=r.long:=(tame.2.2 _).1;repeat refine W.g ?_
 refine W.call rfl rfl rfl (aKd t.frm t.evr no tf tv (by omega) k2.2 (by omega) ?_);obtain⟨at0,hat⟩:∃a,a=t.frm+no*t.evr:=⟨_,rfl⟩;rw[<-hat]at k2 Tr ⊢;refine fT 1 2 3 6 8 36 λT=> ?_;by_cases c3:w.hz<at0
 ·repeat refine W.g ?_
  refine aK (vs:=[.int .i64 0,.int .i64 0,.slice none 0 0 0,.slice none 0 0 0]) (cs':=[.int .i64 0,.int .i64 0,.slice none 0 0 0,.slice none 0 0 0]) rfl rfl rfl rfl rfl rfl g6 rfl λM nM gM kM=> ?_;repeat refine W.g ?_
  refine aQ rfl rfl rfl gM rfl rfl ?_;exact nopost (λhh=>by have:=hh.2.2;omega) (Ext.store XK nM kM (by omega) (by omega))
 repeat refine W.g ?_
 refine dI s9 hjr rfl rfl rfl rfl rfl rfl rfl λi2 o2 e2 M2 re2=> ?_;rw[hr]at re2;obtain⟨z1,z2,z3,ee,_⟩:=id re2;subst ee;repeat refine W.g ?_
 refine W.call rfl rfl rfl (aTq λH4 X4 n4 L4=> ?_);refine fT 1 2 3 6 9 54 λT=> ?_;repeat refine W.g ?_
 refine W.call rfl rfl rfl (aTp at0 L4 (Rp.ext (XK.trans X4) re2) tame ⟨by omega,by omega⟩ λH5 vA vD X5 O5=> ?_);have nX4:=X4.next;have nX5:=X5.next;have g65:=((X4.trans X5).old b6 hb2).trans g6;have L15:=L1.ext (X4.trans X5);clear L6 L1 L8 L4 M2;refine gS 1 2 3 6 56 λT=> ?_;repeat (first|refine W.g ?_|refine W.m λh_ X_ n_ g_ L_=> ?_|refine W.n λh_ X_ n_ g_ S_=> ?_)
 refine aK (vs:=[.int .i64 0,.int .i64 0,vA,vD]) (cs':=[.int .i64 0,.int .i64 0,vA,vD]) rfl rfl rfl rfl rfl rfl g65 rfl λM1 m1 gM1 kM1=> ?_;repeat refine W.g ?_
 refine aK (vs:=[.int .i64 (j:Int)]) (cs':=[.int .i64 (j:Int),.int .i64 0,vA,vD]) rfl rfl rfl rfl rfl rfl gM1 rfl λM2 m2 gM2 kM2=> ?_;repeat refine W.g ?_
 refine aK (vs:=[.int .i64 no]) (cs':=[.int .i64 (j:Int),.int .i64 no,vA,vD]) rfl rfl rfl rfl rfl rfl gM2 rfl λM3 m3 gM3 kM3=> ?_;have kM:∀k,k≠b6->M3.get k=H5.get k:=λk hk=>(kM3 k hk).trans ((kM2 k hk).trans (kM1 k hk));have OM:=(O5.keep (h':=M3) (by omega) λk hk=>kM k (by have:=(O5.lt k hk).1;omega));have XM:Ext h M3:=Ext.store (Ext.store (Ext.store ((XK.trans X4).trans X5) m1 kM1 (by omega) (by omega)) m2 kM2 (by omega) (by omega)) m3 kM3 (by omega) (by omega);have L6:LocE M3 b6 0 [.int .i64 (j:Int),.int .i64 no,vA,vD]:=⟨_,_,gM3,by omega,rfl⟩
 have L1:LocE M3 h.next 0 [.int .i64 w.hz,v1,v2,v3,v4,v5,v6,v7,v8,v9,v10,v11]:=by
  obtain⟨cs0,ro0,a1,a2,a3⟩:=L15;exact⟨cs0,ro0,(kM _ (by omega)).trans a1,by omega,a3⟩
 have el:(r.arrs at0 r.rides.length).getD r.rides.length 0=at0+r.long:=by
  rw[List.getD_eq_getElem?_getD,hn,nU r at0 (by omega),hl,Int.add_assoc];rfl
 clear L15 gM1 gM2 g65 g6 kM1 kM2 kM3;refine dB 1 2 3 6 λT=> ?_;repeat refine W.g ?_
 have ds:=aD (XM.fr fr);repeat refine W.e λr_ h_ ds_ s_=> ?_
 refine aH ds_ rfl rfl rfl rfl (aDd (n:=r.rides.length) (cT _ _ _) (by have:=tame.1;omega) (Rp.ext ds_.x (OM.run (t:=(j:Int)) (n:=no))) λh1 Y1=>DZ.val Y1 λq1 N1 ds1 s1=> ?_);rw[el];try refine aP ?_
 refine aBc (k:=0) L1 ds1 (Ext.refl _) rfl rfl rfl rfl rfl rfl rfl λN2 s2 X2=> ?_;try refine aP ?_
 have gN:=(X2.old b6 (by omega)).trans gM3;have nX2:=X2.next
 refine aBb (vs:=[.int .i64 (j:Int),.int .i64 no,vA,vD]) (cs':=[.int .i64 (j:Int),.int .i64 no,vA,vD]) (nr:=[2,1,0]) (idx:=[4,2,1,0]) (λr hr=>by
  rcases List.mem_cons.1 hr with rfl|hr
  ·simp[recIdx]
  ·exact List.mem_cons_of_mem _ (ds1.hri r hr)) (λr hr=>by
  rcases List.mem_cons.1 hr with rfl|hr
  ·exact .inr ⟨_,_,_,rfl,λk hk=>by rw[List.mem_singleton.1 hk];omega,λk hk=>by rw[List.mem_singleton.1 hk];omega⟩
  ·exact .inl (ds1.hri r hr)) rfl rfl rfl rfl rfl rfl rfl gN rfl λq3 N3 hr3 s3=> ?_
 try refine aP ?_
 have kN:∀k,k≠b6->N3.get k=N2.get k:=λk hk=>by rw[s3.get,aA,if_neg (Ne.symm hk)]
 have gN3:N3.get b6=some (.cells [.int .i64 (j:Int),.int .i64 no,vA,vD] false):=by rw[s3.get,aG]
 have nN3:N3.next=N2.next:=s3.next;have ON:=(OM.ext X2).keep (h':=N3) (by omega) λk hk=>kN k (by have:=(OM.lt k hk).1;omega);repeat refine W.g ?_
 refine aQ rfl rfl rfl gN3 rfl rfl ?_
 exact q N3 (j:Int) no vA vD _ _ (decide (at0+r.long<=w.hz)) (Ext.store (XM.trans X2) nN3 kN (by omega) (by omega)) (by
  rw[decide_eq_true_iff,Th];exact Iff.intro (λh=>⟨by omega,by omega,by omega⟩) (λh=>by have:=h.2.2;omega)) (ON.low (by omega)) (λ_=>Tr.symm)
end
end Go.Proofs.YtfheibkikpefkaaGreatDoor

namespace Go.Proofs.YtfheibkikpefkaaGreatDoor
open Go Go.CM Go.CM.Tt
noncomputable section
set_option maxHeartbeats 16000000
theorem own1 {h1:Heap} {lo i j y:Nat} {a:Int} (r:RouteW) (hA:h1.get i=some (.cells [.int .i64 a] false)) (hD:h1.get j=some (.cells [.int .i64 a] false)) (l1:lo<=i) (l3:i<j) (l4:j<y) (l5:y<h1.next):
  OwnG h1 lo [(1,.slice (some (i,0)) 1 1 0,(r.arrs a 0).map Flat.enc),(1,.slice (some (j,0)) 1 1 0,(r.deps a 0).map Flat.enc)] [y]:=by
 refine⟨λrr hr=> ?_,?_,λk hk=> ?_⟩
 ·simp only[List.mem_cons,List.not_mem_nil,or_false]at hr
  rcases hr with rfl|rfl
  ·exact .inr ⟨i,0,false,rfl,by omega,by omega,hA,λe he=>by
    have:e=[CV.int .i64 a]:=List.mem_singleton.1 he;rw[this];rfl,.inl ⟨rfl,.inr rfl⟩⟩
  ·exact .inr ⟨j,0,false,rfl,by omega,by omega,hD,λe he=>by
    have:e=[CV.int .i64 a]:=List.mem_singleton.1 he;rw[this];rfl,.inl ⟨rfl,.inr rfl⟩⟩
 ·show[i,j,y].Nodup
  simp only[List.nodup_cons,List.mem_cons,List.not_mem_nil,or_false,not_or];exact⟨⟨by omega,by omega⟩,by omega,by simp⟩
 ·simp only[List.mem_cons,List.not_mem_nil,or_false]at hk
  omega
theorem zK {h:Heap} {tm:Tm} {Q:R->Prop} {cs:List CV} {w:WorldD} {t:TripW} {ro:RouteW} {jr:Nat} (rw0:Rp.R h cs w) (fr:Fresh h) (hz:TickOk w.hz) (j:Nat) (T:w.Trip j t ro jr) (no:Int)
  (q:∀h' t0 n0 vA vD arr dep (b:Bool),Ext h h'->(b=true↔w.hasAt j no)->OwnG h' h.next [(1,vA,List.map Flat.enc arr),(1,vD,List.map Flat.enc dep)] []->(b=true->(⟨t0,n0,arr,dep⟩:RunD)=w.runAt j no)->Q (.val (.tup [.agg [.int .i64 t0,.int .i64 n0,vA,vD],.bool b]) h')):
  W E1 (.call (.fn 69 [] []) [.agg cs,.int .i64 (j:Int),.int .i64 no]) tm h Q:=by
 obtain⟨v1,v2,v3,v4,v5,v6,v7,v8,v9,v10,v11,rfl,s1,s2,s3,s4,s5,s6,s7,s8,s9,s10,s11⟩:=rw0;have Th:=T.has (no:=no);have Tr:=T.run (no:=no);obtain⟨⟨hj,ht⟩,⟨hjr,hr⟩,er,tf,tv,tu,fu,tame,⟨n,hn,hl⟩,_,_,_⟩:=T;obtain⟨hz0,hz1⟩:=hz;refine W.fn (s:=aB Tryz.f69) rfl rfl rfl rfl ?_;repeat (refine W.seq ?_)
 refine W.region ?_;refine W.box rfl rfl rfl λH1 X1 n1 g1 L1=> ?_;refine jV rfl rfl rfl λH2 X2 n2 g2 L2=> ?_;have g2:H2.get H1.next=some (.cells [.int .i64 0,.int .i64 0,.slice none 0 0 0,.slice none 0 0 0] false):=g2;clear L2;repeat refine W.g ?_
 refine eN s10 hj rfl rfl rfl rfl rfl rfl rfl λi1 o1 M1=> ?_;replace M1:=show LocE h i1 o1 [.int .i64 (jr:Int),.int .i64 t.frm,.int .i64 t.evr,.int .i64 t.untl]from by rw[<-er,<-ht];exact M1
 repeat (first|refine W.g ?_|refine W.m λh_ X_ n_ g_ L_=> ?_)
 have L8:LocE h_ H2.next 0 [.int .i64 (jr:Int),.int .i64 t.frm,.int .i64 t.evr,.int .i64 t.untl]:=L_;have g6:=(X_.old H1.next (by omega)).trans g2;have XK:Ext h h_:=(X1.trans X2).trans X_;have L1:=(L1.ext X2).ext X_;obtain⟨b6,hb6⟩:∃b,b=H1.next:=⟨_,rfl⟩;obtain⟨b8,hb8⟩:∃b,b=H2.next:=⟨_,rfl⟩;obtain⟨K,hK⟩:∃K,K=h_:=⟨_,rfl⟩;rw[<-hb6,<-hK]at g6;rw[<-hb8,<-hK]at L8;rw[<-hK]at L1 XK n_;rw[<-hK];simp only[<-hb6,<-hb8];have hb1:h.next<b6:=by omega
 have hb2:b6<K.next:=by omega
 have nopost:¬w.has t ro no->∀{M:Heap},Ext h M->Q (.val (.tup [.agg [.int .i64 0,.int .i64 0,.slice none 0 0 0,.slice none 0 0 0],.bool false]) M):=λhh M XM=>q M 0 0 _ _ [] [] false XM (Iff.intro (λh=>by cases h) (λh=>absurd (Th.1 h) hh)) aPj (λh=>by cases h);clear g1 g2 g_ X1 X2 X_ n1 n2 n_ M1 L_ hK;refine fT 1 2 3 6 8 21 λT=> ?_;by_cases c1:no<0
 ·repeat refine W.g ?_
  refine aK (vs:=[.int .i64 0,.int .i64 0,.slice none 0 0 0,.slice none 0 0 0]) (cs':=[.int .i64 0,.int .i64 0,.slice none 0 0 0,.slice none 0 0 0]) rfl rfl rfl rfl rfl rfl g6 rfl λM nM gM kM=> ?_;repeat refine W.g ?_
  refine aQ rfl rfl rfl gM rfl rfl ?_;exact nopost (λhh=>by have:=hh.1;omega) (Ext.store XK nM kM (by omega) (by omega))
 repeat refine W.g ?_
 refine W.call rfl rfl rfl (vK t.frm t.evr t.untl ?_);rw[if_pos ⟨tf,tv,tu⟩];refine aDo 1 2 3 6 8 21 22 29 λT=> ?_;by_cases c2:bD t.frm t.evr t.untl<=no
 ·repeat refine W.g ?_
  refine aK (vs:=[.int .i64 0,.int .i64 0,.slice none 0 0 0,.slice none 0 0 0]) (cs':=[.int .i64 0,.int .i64 0,.slice none 0 0 0,.slice none 0 0 0]) rfl rfl rfl rfl rfl rfl g6 rfl λM nM gM kM=> ?_;repeat refine W.g ?_
  refine aQ rfl rfl rfl gM rfl rfl ?_;exact nopost (λhh=>by have:=hh.2.1;omega) (Ext.store XK nM kM (by omega) (by omega))
 have k2:=(kL tv.1 (show(0:Int)<=no by omega)).1 (show no<bD t.frm t.evr t.untl by omega);have u2:=tu.2;have f2:=tf.1;have pos:0<=no*t.evr:=Int.mul_nonneg (by omega) tv.1;have lp:0<=ro.long:=(tame.2.2 _).1;repeat refine W.g ?_
 refine W.call rfl rfl rfl (aHx t.frm t.evr no tf tv (by omega) k2.2 (by omega) ?_);obtain⟨at0,hat⟩:∃a,a=t.frm+no*t.evr:=⟨_,rfl⟩;rw[<-hat]at k2 Tr ⊢;refine fT 1 2 3 6 8 39 λT=> ?_;by_cases c3:w.hz<at0
 ·repeat refine W.g ?_
  refine aK (vs:=[.int .i64 0,.int .i64 0,.slice none 0 0 0,.slice none 0 0 0]) (cs':=[.int .i64 0,.int .i64 0,.slice none 0 0 0,.slice none 0 0 0]) rfl rfl rfl rfl rfl rfl g6 rfl λM nM gM kM=> ?_;repeat refine W.g ?_
  refine aQ rfl rfl rfl gM rfl rfl ?_;exact nopost (λhh=>by have:=hh.2.2;omega) (Ext.store XK nM kM (by omega) (by omega))
 repeat refine W.g ?_
 refine dI s9 hjr rfl rfl rfl rfl rfl rfl rfl λi2 o2 e2 M2 re2=> ?_;rw[hr]at re2;obtain⟨z1,z2,z3,ee,y1,y2,y3⟩:=id re2;subst ee;obtain⟨tl,tr,tp⟩:=tame;repeat (first|refine W.g ?_|refine W.m λh_ X_ n_ g_ L_=> ?_|refine W.n λh_ X_ n_ g_ S_=> ?_)
 rename_i H3 X3 n3 g3 L3 H4 X4 n4 g4 S4 H5 X5 n5 g5;have g4:H4.get H3.next=some (.cells [.int .i64 at0] false):=g4;have g5:H5.get H4.next=some (.cells [.int .i64 at0] false):=g5;have g_:h_.get H5.next=some (.cells [.int .i64 (j:Int),.int .i64 no,.slice (some (H3.next,0)) 1 1 0,.slice (some (H4.next,0)) 1 1 0] false):=g_;have O:=own1 (lo:=H3.next) (y:=H5.next) ro ((X_.old _ (by omega)).trans ((X5.old _ (by omega)).trans g4)) ((X_.old _ (by omega)).trans g5) (Nat.le_refl _) (by omega) (by omega) (by omega);have L11:LocE H3 K.next 0 [z1,z2,z3]:=L3;have L1:=L1.ext X3;have g6:=(X3.old b6 hb2).trans g6;have XH:Ext h H3:=XK.trans X3;have X0:Ext H3 h_:=(X4.trans X5).trans X_;obtain⟨b,hb⟩:∃b,b=H5.next:=⟨_,rfl⟩;obtain⟨c,hc⟩:∃c,c=K.next:=⟨_,rfl⟩;rw[<-hb]at g_ O;rw[<-hc]at L11;simp only[<-hb,<-hc];have hb6l:b6<H3.next:=by omega
 have hbn:H3.next<b:=by omega
 have nH3:=XH.next;clear L_ S_ S4 L3 L8 g3 g4 g5 X3 X4 X5 X_ n3 n4 n5 M2 n_ hb hc;refine fT 3 6 9 11 12 13 λT=> ?_
 refine W.loop (σ:=Nat) (λk tm h'=>Ext H3 h'/\tm.look 3= .ptr (some (h.next,0))/\tm.look 6= .ptr (some (b6,0))/\tm.look 9= .int .i64 (at0+ro.pre k)/\tm.look 11= .ptr (some (c,0))/\tm.look 12= .ptr (some (b,0))/\tm.look 13= .int .i64 (k:Int)/\k<=ro.rides.length/\
   ∃vA vD,OwnG h' H3.next [(1,vA,(ro.arrs at0 k).map Flat.enc),(1,vD,(ro.deps at0 k).map Flat.enc)] [b]/\h'.get b=some (.cells [.int .i64 (j:Int),.int .i64 no,vA,vD] false)) (λk=>ro.rides.length-k) ?_ (s:=0)
  ⟨X0,rfl,rfl,by show _=CV.int .i64 (at0+0);rw[Int.add_zero];rfl,rfl,rfl,rfl,Nat.zero_le _,_,_,O,g_⟩
 clear O g_ X0;rintro k tm h' ⟨X,w3,w6,w9,w11,w12,w13,hk,vA,vD,O,gb⟩;obtain⟨T,rfl⟩:=pG w3 w6 w9 w11 w12 w13;clear w3 w6 w9 w11 w12 w13;have hpk:=tp k;have hrk:=tr k;have nX:=X.next;have ltb:=(O.x b (by simp)).2;have Lb:LocE h' b 0 [.int .i64 (j:Int),.int .i64 no,vA,vD]:=⟨_,_,gb,ltb,rfl⟩;by_cases c4:k<ro.rides.length
 ·have er2:ro.rides.getD k 0=ro.rides[k]:=by simp[List.getD_eq_getElem?_getD,c4]
  repeat refine W.g ?_
  refine eN y2 c4 rfl rfl rfl rfl rfl rfl rfl λi3 o3 P1=> ?_;replace P1:=show LocE h i3 o3 [.int .i64 (ro.rides.getD k 0)]from by rw[er2];exact P1
  repeat (first|refine W.g ?_|refine W.n λh_ X_ n_ g_ S_=> ?_)
  have S_:SlG h_ 1 (.slice (some (h'.next,0)) 1 1 0) [[.int .i64 (at0+ro.pre k+ro.rides.getD k 0)]]:=S_
  refine gT (H:=H3) (z:=1) (X.trans X_) ((O.o (1,vA,(ro.arrs at0 k).map Flat.enc) (by simp)).ext X_) S_ (by simp) rfl rfl rfl rfl rfl rfl rfl rfl rfl rfl rfl rfl (by
   rw[List.length_map,cT];show(_+1)*8<=_;omega) λv' h5 X5 O5 k5 n5 i5=> ?_
  rw[show(ro.arrs at0 k).map Flat.enc++[[CV.int .i64 (at0+ro.pre k+ro.rides.getD k 0)]]=(ro.arrs at0 (k+1)).map Flat.enc from by rw[kS,List.map_append];rfl]at O5;have OA:=OwnG.turn (A:=[]) (O.ext X_) (h':=h5) (by omega) (λkk h1 h2=>h2.elim (λh2=>(X5.old kk h2).trans ((X.trans X_).old kk h2).symm) (k5 kk h1)) O5 (.inr ⟨_,i5,Nat.le_refl _⟩);have gb5:=(OA.2 b (by simp)).trans ((X_.old b ltb).trans gb);obtain⟨pv,nv,cv,xv,ev⟩:=O5.form;have hcells:v'.cells=some [v']:=by rw[ev];rfl
  clear Lb;repeat refine W.g ?_
  refine aK (vs:=[v']) (cs':=[.int .i64 (j:Int),.int .i64 no,v',vD]) rfl rfl rfl hcells rfl rfl gb5 rfl λM nM gM kM=> ?_;have OM:=(OA.1.put nM kM).1;have XM:Ext H3 M:=Ext.store X5 nM kM (by omega) (by omega);have LM:LocE M b 0 [.int .i64 (j:Int),.int .i64 no,v',vD]:=⟨_,_,gM,by omega,rfl⟩;have nM2:=X_.next;clear OA gb5 O5 hcells;by_cases c5:k<ro.stays.length
  ·have es:ro.stays.getD k 0=ro.stays[k]:=by simp[List.getD_eq_getElem?_getD,c5]
   refine fT 3 6 9 11 12 13 λT=> ?_;repeat refine W.g ?_
   refine eN y3 c5 rfl rfl rfl rfl rfl rfl rfl λi4 o4 P2=> ?_;replace P2:=show LocE h i4 o4 [.int .i64 (ro.stays.getD k 0)]from by rw[es];exact P2
   repeat (first|refine W.g ?_|refine W.n λh_ X_ n_ g_ S_=> ?_)
   have S_:SlG h_ 1 (.slice (some (M.next,0)) 1 1 0) [[.int .i64 (at0+ro.pre (k+1))]]:=by
    have:at0+ro.pre (k+1)=at0+ro.pre k+ro.rides.getD k 0+ro.stays.getD k 0:=by
     show at0+(ro.pre k+ro.rides.getD k 0+ro.stays.getD k 0)=_;omega
    rw[this];exact S_
   refine gT (H:=H3) (z:=1) (XM.trans X_) ((OM.o (1,vD,(ro.deps at0 k).map Flat.enc) (by simp)).ext X_) S_ (by simp) rfl rfl rfl rfl rfl rfl rfl rfl rfl rfl rfl rfl (by
    rw[List.length_map,cS];show(_+1)*8<=_;omega) λu' h6 X6 O6 k6 n6 i6=> ?_
   rw[show(ro.deps at0 k).map Flat.enc++[[CV.int .i64 (at0+ro.pre (k+1))]]=(ro.deps at0 (k+1)).map Flat.enc from by rw[eM,List.map_append];rfl]at O6;have OB:=OwnG.turn (A:=[(1,v',(ro.arrs at0 (k+1)).map Flat.enc)]) (B:=[]) (OM.ext X_) (h':=h6) (by omega) (λkk h1 h2=>h2.elim (λh2=>(X6.old kk h2).trans ((XM.trans X_).old kk h2).symm) (k6 kk h1)) O6 (.inr ⟨_,i6,Nat.le_refl _⟩);have gb6:=(OB.2 b (by simp)).trans ((X_.old b (by omega)).trans gM);have nX6:=X_.next;obtain⟨pw,nw,cw,xw,ew⟩:=O6.form;have hcells:u'.cells=some [u']:=by rw[ew];rfl
   clear LM;repeat refine W.g ?_
   refine aK (vs:=[u']) (cs':=[.int .i64 (j:Int),.int .i64 no,v',u']) rfl rfl rfl hcells rfl rfl gb6 rfl λN nN gN kN=> ?_;have ON:=(OB.1.put nN kN).1;have XN:Ext H3 N:=Ext.store X6 nN kN (by omega) (by omega);repeat refine W.g ?_
   refine⟨k+1,aI c4,XN,rfl,rfl,?_,rfl,rfl,rfl,c4,_,_,ON,gN⟩;show CV.int .i64 (at0+ro.pre k+ro.rides.getD k 0+ro.stays.getD k 0)=CV.int .i64 (at0+(ro.pre k+ro.rides.getD k 0+ro.stays.getD k 0));rw[show at0+ro.pre k+ro.rides.getD k 0+ro.stays.getD k 0=at0+(ro.pre k+ro.rides.getD k 0+ro.stays.getD k 0)from by omega]
  ·have es:ro.stays.getD k 0=0:=by simp[List.getD_eq_getElem?_getD,List.getElem?_eq_none (show ro.stays.length<=k by omega)]
   refine fT 3 6 9 11 12 13 λT=> ?_;repeat (first|refine W.g ?_|refine W.n λh_ X_ n_ g_ S_=> ?_)
   have S_:SlG h_ 1 (.slice (some (M.next,0)) 1 1 0) [[.int .i64 (at0+ro.pre (k+1))]]:=by
    have:at0+ro.pre (k+1)=at0+ro.pre k+ro.rides.getD k 0:=by
     show at0+(ro.pre k+ro.rides.getD k 0+ro.stays.getD k 0)=_;omega
    rw[this];exact S_
   refine gT (H:=H3) (z:=1) (XM.trans X_) ((OM.o (1,vD,(ro.deps at0 k).map Flat.enc) (by simp)).ext X_) S_ (by simp) rfl rfl rfl rfl rfl rfl rfl rfl rfl rfl rfl rfl (by
    rw[List.length_map,cS];show(_+1)*8<=_;omega) λu' h6 X6 O6 k6 n6 i6=> ?_
   rw[show(ro.deps at0 k).map Flat.enc++[[CV.int .i64 (at0+ro.pre (k+1))]]=(ro.deps at0 (k+1)).map Flat.enc from by rw[eM,List.map_append];rfl]at O6;have OB:=OwnG.turn (A:=[(1,v',(ro.arrs at0 (k+1)).map Flat.enc)]) (B:=[]) (OM.ext X_) (h':=h6) (by omega) (λkk h1 h2=>h2.elim (λh2=>(X6.old kk h2).trans ((XM.trans X_).old kk h2).symm) (k6 kk h1)) O6 (.inr ⟨_,i6,Nat.le_refl _⟩);have gb6:=(OB.2 b (by simp)).trans ((X_.old b (by omega)).trans gM);have nX6:=X_.next;obtain⟨pw,nw,cw,xw,ew⟩:=O6.form;have hcells:u'.cells=some [u']:=by rw[ew];rfl
   clear LM;repeat refine W.g ?_
   refine aK (vs:=[u']) (cs':=[.int .i64 (j:Int),.int .i64 no,v',u']) rfl rfl rfl hcells rfl rfl gb6 rfl λN nN gN kN=> ?_;have ON:=(OB.1.put nN kN).1;have XN:Ext H3 N:=Ext.store X6 nN kN (by omega) (by omega);repeat refine W.g ?_
   refine⟨k+1,aI c4,XN,rfl,rfl,?_,rfl,rfl,rfl,c4,_,_,ON,gN⟩;show CV.int .i64 (at0+ro.pre k+ro.rides.getD k 0)=CV.int .i64 (at0+(ro.pre k+ro.rides.getD k 0+ro.stays.getD k 0));rw[show at0+ro.pre k+ro.rides.getD k 0=at0+(ro.pre k+ro.rides.getD k 0+ro.stays.getD k 0)from by omega]
 ·have ek:k=ro.rides.length:=by omega
  subst ek;have L1k:=L1.ext X;have Lbk:=Lb;repeat refine W.g ?_
  have ds:=aD ((XH.trans X).fr fr);refine aHn Lbk ds (Ext.refl _) rfl rfl rfl rfl rfl rfl λr_ h_ ds_ s_=> ?_;try refine aP ?_
  refine aBc (k:=0) L1k ds_ (Ext.refl _) rfl rfl rfl rfl rfl rfl rfl λN2 s2 X2=> ?_;try refine aP ?_
  have gN:=(X2.old b6 (by omega)).trans ((X.old b6 hb6l).trans g6);have nX2:=X2.next
  refine aBb (vs:=[.int .i64 (j:Int),.int .i64 no,vA,vD]) (cs':=[.int .i64 (j:Int),.int .i64 no,vA,vD]) (nr:=[0]) (idx:=[3,0]) (λr hr=>by
   rcases List.mem_cons.1 hr with rfl|hr
   ·simp[recIdx]
   ·exact List.mem_cons_of_mem _ (ds_.hri r hr)) (λr hr=>by
   rcases List.mem_cons.1 hr with rfl|hr
   ·exact .inr ⟨_,_,_,rfl,λk hk=>by rw[List.mem_singleton.1 hk];omega,λk hk=>by rw[List.mem_singleton.1 hk];have:=s_.next;omega⟩
   ·exact .inl (ds_.hri r hr)) rfl rfl rfl rfl rfl rfl rfl gN rfl λq3 N3 hr3 s3=> ?_
  try refine aP ?_
  have kN:∀k,k≠b6->N3.get k=N2.get k:=λk hk=>by rw[s3.get,aA,if_neg (Ne.symm hk)]
  have gN3:N3.get b6=some (.cells [.int .i64 (j:Int),.int .i64 no,vA,vD] false):=by rw[s3.get,aG]
  have nN3:N3.next=N2.next:=s3.next;have ON:=(O.ext X2).keep (h':=N3) (by omega) λk hk=>kN k (by have:=(O.lt k hk).1;omega);repeat refine W.g ?_
  refine aQ rfl rfl rfl gN3 rfl rfl ?_
  exact q N3 (j:Int) no vA vD _ _ (decide (at0+ro.pre ro.rides.length<=w.hz)) (Ext.store ((XH.trans X).trans X2) nN3 kN (by omega) (by omega)) (by
   rw[decide_eq_true_iff,Th];exact Iff.intro (λh=>⟨by omega,by omega,by show t.frm+no*t.evr+ro.pre ro.rides.length<=w.hz;omega⟩) (λh=>by have h2:t.frm+no*t.evr+ro.pre ro.rides.length<=w.hz:=h.2.2;omega)) (OwnG.low ⟨ON.o,by have:=(List.nodup_append.1 ON.nd).1;simpa using this,λk hk=>by cases hk⟩ (by omega)) (λ_=>Tr.symm)
end
end Go.Proofs.YtfheibkikpefkaaGreatDoor
