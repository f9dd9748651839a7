/- A state in memory of its own, by the program. No condition but that memory beyond the next number is empty. -/
import Derived.Test.YtnjkaahbhebaeaaGreatDoorXU
import Derived.Test.YtnjkaahbhebaeaaGreatDoorGN
import Derived.Test.YtnjkaahbhebaeaaGreatDoorHD
import Derived.Test.YtnjkaahbhebaeaaGreatDoorGI
import Derived.Test.YtnjkaahbhebaeaaGreatDoorHB
set_option linter.unusedVariables false
set_option linter.unusedSimpArgs false
set_option maxRecDepth 100000
namespace Go.Proofs.YtnjkaahbhebaeaaGreatDoor
open Go Go.CM Go.CM.Tt
noncomputable section
set_option maxHeartbeats 16000000
set_option maxRecDepth 100000
theorem own_late {h:Heap} {tm:Tm} {Q:R->Prop} {v:CV} {l:List LateD} (sl:Sl h v l) (hm:l.length<=1048576)
  (q:∀h' v',Ext h h'->OwnR h' h.next 4 v' (l.map Flat.enc)->Q (.val v' h')):W E1 (.call (.fn 105 [] []) [v]) tm h Q:=by
 refine W.fn (s:=fnOf Tryz.f105) rfl rfl rfl rfl ?_
 have sg:=Sl.to_map Flat.iff sl
 have hlen:(l.map (Flat.enc:LateD->List CV)).length=l.length:=List.length_map _
 repeat (first|refine W.g ?_|refine W.n λh_ X_ n_ g_ S_=> ?_)
 refine W.apR X_ (z:=4) (l:=[]) (l2:=l.map Flat.enc) (.inr ⟨h.next,0,false,rfl,Nat.le_refl _,by omega,g_,λe he=>(by cases he),.inl ⟨rfl,.inl rfl⟩⟩) (sg.ext X_) rfl rfl rfl rfl rfl rfl rfl rfl rfl rfl rfl rfl (by rw[hlen];show(0+l.length)*32<=_;omega) λv' h' X O=> ?_
 repeat refine W.g ?_
 exact q _ _ X O
theorem own_id {h:Heap} {tm:Tm} {Q:R->Prop} {v:CV} {l:List (Int×Int)} (sl:Sl h v l) (hm:l.length<=1048576)
  (q:∀h' v',Ext h h'->OwnR h' h.next 2 v' (l.map Flat.enc)->Q (.val v' h')):W E1 (.call (.fn 106 [] []) [v]) tm h Q:=by
 refine W.fn (s:=fnOf Tryz.f106) rfl rfl rfl rfl ?_
 have sg:=Sl.to_map Flat.iff sl
 have hlen:(l.map (Flat.enc:(Int×Int)->List CV)).length=l.length:=List.length_map _
 repeat (first|refine W.g ?_|refine W.n λh_ X_ n_ g_ S_=> ?_)
 refine W.apR X_ (z:=2) (l:=[]) (l2:=l.map Flat.enc) (.inr ⟨h.next,0,false,rfl,Nat.le_refl _,by omega,g_,λe he=>(by cases he),.inl ⟨rfl,.inl rfl⟩⟩) (sg.ext X_) rfl rfl rfl rfl rfl rfl rfl rfl rfl rfl rfl rfl (by rw[hlen];show(0+l.length)*16<=_;omega) λv' h' X O=> ?_
 repeat refine W.g ?_
 exact q _ _ X O
theorem ownState_w {h:Heap} {tm:Tm} {Q:R->Prop} {cs:List CV} {s:StateD} (ss:Rp.R h cs s) (fr:Fresh h) (sm:s.w.small) (hl:s.late.length<=1048576) (hg:s.gone.length<=1048576)
  (q:∀h' hz m1 m2 m3 m4 m5 m6 p d vr t z vl vg,Ext h h'->(∀M:Heap,h'.next<=M.next->(∀k,h.next<=k->k<h'.next->M.get k=h'.get k)->OwnWd M h.next hz m1 m2 m3 m4 m5 m6 p d vr t z s.w/\OwnR M h.next 4 vl (s.late.map Flat.enc)/\OwnR M h.next 2 vg (s.gone.map Flat.enc))->Q (.val (.agg [hz,m1,m2,m3,m4,m5,m6,p,d,vr,t,z,vl,vg]) h')):W E1 (.call (.fn 37 [] []) [.agg cs]) tm h Q:=by
 obtain⟨a1,a2,a3,a4,a5,a6,a7,a8,a9,a10,a11,vl,vg,rfl,rw0,t1,t2⟩:=ss
 refine W.fn (s:=fnOf Tryz.f37) rfl rfl rfl rfl ?_
 repeat (refine W.seq ?_)
 refine W.region ?_
 refine W.box rfl rfl rfl λH1 X1 n1 g1 L1=> ?_
 refine W.al rfl rfl rfl λH2 X2 n2 g2 L2=> ?_
 have g2:H2.get H1.next=some (.cells [.int .i64 0,.slice none 0 0 0,.slice none 0 0 0,.slice none 0 0 0,.slice none 0 0 0,.slice none 0 0 0,.slice none 0 0 0,.slice none 0 0 0,.slice none 0 0 0,.slice none 0 0 0,.slice none 0 0 0,.slice none 0 0 0,.slice none 0 0 0,.slice none 0 0 0] false):=g2
 have L1:=L1.ext X2
 have X:=X1.trans X2
 clear L2
 repeat refine W.g ?_
 have ds:=DX.start (X.fr fr)
 repeat (first|refine W.gd ?_|refine W.e λr_ h_ ds_ s_=> ?_)
 have X3:=X.trans ds_.x
 have hA:=ds_.x.next
 refine W.dcallZ ds_ rfl rfl rfl rfl (ownWorld_w (Rp.ext X3 rw0) (X3.fr fr) sm λh4 hz m1 m2 m3 m4 m5 m6 p d vr t z X4 o4=>DZ.val X4 λr4 n4 ds4 t4=> ?_)
 repeat (first|refine W.gd ?_|refine W.e λr_ h_ ds_ s_=> ?_)
 have sA:=s_
 have X5:=X.trans ds_.x
 have hB:=ds_.x.next
 refine W.dcallZ ds_ rfl rfl rfl rfl (own_late (t1.ext X5) hl λh6 ul X6 o6=>DZ.val X6 λr6 n6 ds6 t6=> ?_)
 repeat (first|refine W.gd ?_|refine W.e λr_ h_ ds_ s_=> ?_)
 have sB:=s_
 have X7:=X.trans ds_.x
 have hC:=ds_.x.next
 refine W.dcallZ ds_ rfl rfl rfl rfl (own_id (t2.ext X7) hg λh8 ug X8 o8=>DZ.val X8 λr8 n8 ds8 t8=> ?_)
 have e8:=t8.ext
 have e6:=(t6.ext.trans sB.ext).trans (X8.trans e8)
 have e4:=(t4.ext.trans sA.ext).trans (X6.trans e6)
 have x8:=ds8.x
 have nx:=x8.next
 have N4:=(X3.trans X4).next
 have lo4:=X3.next
 have lo6:=X5.next
 have lo8:=X7.next
 have o8:=o8.ext e8
 have o6:=o6.ext e6
 have g28:=(x8.old H1.next (by omega)).trans g2
 have O4:OwnWd n8 H2.next hz m1 m2 m3 m4 m5 m6 p d vr t z s.w:=(o4.low (lo':=H2.next) hA).ext e4
 have o6:=o6.low (lo':=H2.next) hB
 have o8:=o8.low (lo':=H2.next) hC
 obtain⟨p6,l6,c6,y6,rfl⟩:=o6.form
 obtain⟨p8,l8,c8,y8,rfl⟩:=o8.form
 obtain rfl:=o4.hz
 repeat refine W.gd ?_
 refine W.dst (vs:=[.int .i64 s.w.hz,m1,m2,m3,m4,m5,m6,p,d,vr,t,z,.slice p6 l6 c6 y6,.slice p8 l8 c8 y8]) (cs':=[.int .i64 s.w.hz,m1,m2,m3,m4,m5,m6,p,d,vr,t,z,.slice p6 l6 c6 y6,.slice p8 l8 c8 y8]) ds8.hri rfl rfl rfl rfl rfl rfl rfl g28 rfl λq9 N hr9 s9=> ?_
 try refine W.dv ?_
 repeat refine W.g ?_
 have gN:N.get H1.next=some (.cells [.int .i64 s.w.hz,m1,m2,m3,m4,m5,m6,p,d,vr,t,z,.slice p6 l6 c6 y6,.slice p8 l8 c8 y8] false):=by rw[s9.get,put_same]
 have kN:∀k,k≠H1.next->N.get k=n8.get k:=λk hk=>by rw[s9.get,Heap.get_put,if_neg (Ne.symm hk)]
 have nN:N.next=n8.next:=s9.next
 refine BodyQ.cell1 rfl rfl gN rfl rfl ?_
 refine q N _ m1 m2 m3 m4 m5 m6 p d vr t z _ _ (Ext.store (X.trans x8) nN kN (by omega) (by omega)) λM hn hk=> ?_
 have kM:∀k,H2.next<=k->k<n8.next->M.get k=n8.get k:=λk h1 h2=>(hk k (by omega) (by omega)).trans (kN k (by omega))
 exact⟨(O4.keep (by omega) kM).low (by omega),(Tt.OwnR.keepB o6 (by omega) kM).low (by omega),(Tt.OwnR.keepB o8 (by omega) kM).low (by omega)⟩
end
end Go.Proofs.YtnjkaahbhebaeaaGreatDoor

namespace Go.Proofs.YtnjkaahbhebaeaaGreatDoor
open Go Go.CM Go.CM.Tt
noncomputable section
set_option maxHeartbeats 16000000
set_option maxRecDepth 100000
theorem lateDiffer_w {h:Heap} {tm:Tm} {Q:R->Prop} {v w:CV} {l m:List LateD} (s1:Sl h v l) (s2:Sl h w m) (c0:¬(l.length:Int)=(m.length:Int)) (q:Q (.val (.bool false) h)):W E1 (.call (.fn 110 [] []) [v,w]) tm h Q:=by
 refine W.fn (s:=fnOf Tryz.f110) rfl rfl rfl rfl ?_
 repeat refine W.g ?_
 exact q
theorem sameL_w {h:Heap} {tm:Tm} {Q:R->Prop} {ca cb:List CV} {s o:StateD} (sa:Rp.R h ca s) (sb:Rp.R h cb o) (fr:Fresh h) (ew:o.w=s.w) (sm:s.w.small) (c0:¬(s.late.length:Int)=(o.late.length:Int)) (q:∀h',Ext h h'->Q (.val (.bool false) h')):W E1 (.call (.fn 39 [] []) [.agg ca,.agg cb]) tm h Q:=by
 obtain⟨a1,a2,a3,a4,a5,a6,a7,a8,a9,a10,a11,vl,vg,rfl,ra,t1,t2⟩:=sa
 obtain⟨b1,b2,b3,b4,b5,b6,b7,b8,b9,b10,b11,ul,ug,rfl,rb,u1,u2⟩:=sb
 refine W.fn (s:=fnOf Tryz.f39) rfl rfl rfl rfl ?_
 repeat (refine W.seq ?_)
 refine W.region ?_
 refine W.box rfl rfl rfl λH1 X1 n1 g1 L1=> ?_
 refine W.box rfl rfl rfl λH2 X2 n2 g2 L2=> ?_
 have L1:=L1.ext X2
 have X:=X1.trans X2
 rw[ew]at rb L2
 repeat refine W.g ?_
 refine W.call rfl rfl rfl (wsame_w (X.fr fr) (Rp.ext X ra) (Rp.ext X rb) (small_short sm) λh3 X3=> ?_)
 have L1:=L1.ext X3
 have L2:=L2.ext X3
 have XX:=X.trans X3
 repeat refine W.g ?_
 refine W.call rfl rfl rfl (lateDiffer_w (t1.ext XX) (u1.ext XX) c0 ?_)
 repeat refine W.g ?_
 exact q _ XX
end
end Go.Proofs.YtnjkaahbhebaeaaGreatDoor

namespace Go.Proofs.YtnjkaahbhebaeaaGreatDoor
open Go Go.CM Go.CM.Tt
noncomputable section
set_option maxHeartbeats 40000000
set_option maxRecDepth 100000
theorem _root_.Go.CM.W.ixG {E:Env} {tm:Tm} {H h:Heap} {Q:R->Prop} {all rest:List Oper} {o:Oper} {α:Type} [Flat α] {l:List α} {v:CV} {t:TypeId} {x y:Operand} {s:TyS} {et j:Nat} {kk:IntKind} {n:Int} (sl:Sl H v l) (hj:j<l.length) (hn:n=(j:Int)) (hgd:guardOn all tm o=some true) (hop:o.op= .indexAddr t x y) (hx:cvOf E.globs tm x=v) (hy:cvOf E.globs tm y= .int kk n) (hs:E.ty t=some s) (hk:s.kind= .slice et) (hz:sizeOf? E et=some (Rp.z α))
  (w:∀i off,LocE H i off (Flat.enc l[j])->W E (.ops all rest) (putTmp tm o.dst (.ptr (some (i,off)))) h Q):W E (.ops all (o::rest)) tm h Q:=by
 subst hn
 exact W.ixF sl hj hgd hop hx hy hs hk hz w
theorem stateLess_w {h:Heap} {tm:Tm} {cs:List CV} {s:StateD} (ss:Rp.R h cs s) (rh:RH h) (fr:Fresh h):W E1 (.call (.fn 5 [] []) [.agg cs]) tm h (λr=>∃h',r= .val (.bool true) h'):=by
 have ss0:=ss
 obtain⟨a1,a2,a3,a4,a5,a6,a7,a8,a9,a10,a11,vl,vg,rfl,rw0,t1,t2⟩:=ss
 refine W.fn (s:=fnOf Tryz.f5) rfl rfl rfl rfl ?_
 repeat (refine W.seq ?_)
 refine W.region ?_
 refine W.box rfl rfl rfl λH1 X1 n1 g1 L1=> ?_
 repeat refine W.g ?_
 refine W.call rfl rfl rfl (W.known rfl (rh.ext X1).1 ?_)
 repeat refine W.g ?_
 refine W.call rfl rfl rfl (lightState_w (Rp.ext X1 ss0) λh2 b X2 hb=> ?_)
 have L1:=L1.ext X2
 have XX:=X1.trans X2
 refine W.k2 1 16 λT=> ?_
 cases b
 ·repeat refine W.g ?_
  exact⟨_,rfl⟩
 obtain⟨fw,hl6,hg6⟩:=hb rfl
 have sm:=few_small fw
 have sl:s.w.whole->s.w.told.slim:=λ_=>few_told fw
 repeat refine W.g ?_
 refine W.call rfl rfl rfl (check_state_w (Rp.ext XX ss0) (rh.ext XX) (XX.fr fr) sm sl (by omega) λh3 e X3 he=> ?_)
 have L1:=L1.ext X3
 have XY:=XX.trans X3
 refine W.k3 1 18 20 λT=> ?_
 by_cases c0:e=0
 rotate_left
 ·repeat refine W.g ?_
  exact⟨_,rfl⟩
 have ok:=he.1 c0
 subst c0
 by_cases c1:s.late.length=0
 ·repeat refine W.g ?_
  exact⟨_,rfl⟩
 have c1':¬(s.late.length:Int)=0:=by omega
 repeat refine W.g ?_
 obtain⟨k,hk⟩:∃k,s.late.length=k+1:=⟨s.late.length-1,by omega⟩
 refine W.call rfl rfl rfl (ownState_w (Rp.ext XY ss0) (XY.fr fr) sm (by omega) (by omega) λh4 hz m1 m2 m3 m4 m5 m6 p d_ vr t z ul ug X4 ot=> ?_)
 have L1:=L1.ext X4
 have XZ:=XY.trans X4
 refine W.k2 1 30 λT=> ?_
 repeat (first|refine W.g ?_|refine W.m λh_ X_ n_ g_ L_=> ?_)
 have n3:=n_
 have kO:∀M:Heap,h_.next<=M.next->(∀a,a<h4.next->M.get a=h_.get a)->_:=λM hn hk=>ot M (by omega) λa _ ha=>(hk a ha).trans (X_.old a ha)
 obtain⟨O4,OL,OG⟩:=kO h_ (Nat.le_refl _) λ_ _=>rfl
 obtain rfl:=O4.hz
 have sL:=OwnR.toSl (α:=LateD) OL
 have L3:=L_
 have g3:=g_
 have XA:=XZ.trans X_
 have L1:=L1.ext X_
 have hkl:k<s.late.length:=by omega
 obtain⟨d,hd⟩:∃d,d=s.late[k]:=⟨_,rfl⟩
 clear L_
 obtain⟨b4,hb4⟩:∃b,b=h_.next:=⟨_,rfl⟩
 repeat refine W.g ?_
 refine W.ixG sL hkl (by omega) rfl rfl rfl rfl rfl rfl rfl λi1 o1 M1=> ?_
 replace M1:=show LocE h_ i1 o1 [.int .i64 d.trip,.int .i64 d.no,.int .i64 d.pos,.int .i64 d.by_]from by rw[hd];exact M1
 repeat (first|refine W.g ?_|refine W.m λh_ X_ n_ g_ L_=> ?_)
 have XBo:=X_
 have L4:=show LocE h_ _ 0 [.int .i64 d.trip,.int .i64 d.no,.int .i64 d.pos,.int .i64 d.by_]from L_
 obtain⟨_,OL0,_⟩:=ot h4 (Nat.le_refl _) λ_ _ _=>rfl
 obtain⟨i,x,lo,li,hv,sv⟩:=Tt.OwnR.upto OL0 (k:=k) (by rw[List.length_map];omega) (E:=E1) (kk:= .i64) (s:=⟨.slice 84,1,24,[.slice none 0 0 0],false,false,[]⟩) rfl rfl
 have ek:(s.late.length:Int)-1=(k:Int):=by omega
 refine W.slX (v:=ul) (v':= .slice (some (i,0)) k (s.late.map (Flat.enc:LateD->List CV)).length x) rfl rfl rfl rfl (by show oSlice E1 _ ul none (some (.int .i64 ((s.late.length:Int)-1))) none=_;rw[ek];exact hv) ?_
 have g33:=(XBo.old _ (by omega)).trans g3
 repeat refine W.g ?_
 refine W.stn (vs:=[.slice (some (i,0)) k (s.late.map (Flat.enc:LateD->List CV)).length x]) (cs':=[.int .i64 s.w.hz,m1,m2,m3,m4,m5,m6,p,d_,vr,t,z,.slice (some (i,0)) k (s.late.map (Flat.enc:LateD->List CV)).length x,ug]) rfl rfl rfl rfl rfl rfl g33 rfl λM nM gM kM=> ?_
 have kM:∀a,a≠h4.next->M.get a=h_.get a:=kM
 have XM:Ext h M:=Ext.store (XA.trans XBo) nM kM (by have:=XZ.next;omega) (by omega)
 have L4:=L4.of_get (kM _ (by omega)) (by omega)
 have L1:=(L1.ext XBo).of_get (kM h.next (by have:=X4.next;have:=XY.next;omega)) (by omega)
 obtain⟨P4,PL,PG⟩:=ot M (by omega) λa h1 h2=>(kM a (by omega)).trans ((XBo.old a (by omega)).trans (Ext.old (by assumption) a (by omega)))
 obtain⟨lt,hlt⟩:∃lt,lt=s.late.take k:=⟨_,rfl⟩
 have hl:s.late=lt++[d]:=by
  rw[hlt,hd]
  conv=>lhs;rw[<-List.take_append_drop k s.late]
  rw[List.drop_eq_getElem_cons hkl,List.drop_of_length_le (by omega)]
 have sv:Sl M (.slice (some (i,0)) k (s.late.map (Flat.enc:LateD->List CV)).length x) lt:=by
  refine Sl.of_map Flat.iff ?_
  rw[hlt,List.map_take]
  exact sv M (by omega) ((kM i (by omega)).trans ((XBo.old i (by omega)).trans (Ext.old (by assumption) i li)))
 obtain⟨o,ho⟩:∃o:StateD,o=⟨s.w,lt,s.gone⟩:=⟨_,rfl⟩
 have ro:Rp.R M [.int .i64 s.w.hz,m1,m2,m3,m4,m5,m6,p,d_,vr,t,z,.slice (some (i,0)) k (s.late.map (Flat.enc:LateD->List CV)).length x,ug] o:=by
  rw[ho]
  exact⟨m1,m2,m3,m4,m5,m6,p,d_,vr,t,z,_,ug,rfl,P4.rp,sv,OwnR.toSl (α:=Int×Int) PG⟩
 have L3:LocE M h4.next 0 [.int .i64 s.w.hz,m1,m2,m3,m4,m5,m6,p,d_,vr,t,z,.slice (some (i,0)) k (s.late.map (Flat.enc:LateD->List CV)).length x,ug]:=⟨_,_,gM,by omega,rfl⟩
 clear P4 PL PG kO ot O4 OL OL0 OG sL g3 g33 M1
 refine W.k3 1 3 4 λT=> ?_
 repeat refine W.g ?_
 obtain⟨c,tk,hmany,⟨ls,la,lr⟩,gs,gt⟩:=id ok
 have LGs:s.LG:=⟨hmany,ls,la,lr,gs,gt⟩
 have LGo:o.LG:=by rw[ho];exact StateD.less hl LGs
 have ow:o.w=s.w:=by rw[ho]
 have og:o.gone=s.gone:=by rw[ho]
 have ol:o.late=lt:=by rw[ho]
 have lt_len:lt.length=k:=by rw[hlt,List.length_take];omega
 have okO:o.Ok:=⟨by rw[ow];exact c,by rw[ow];exact tk,LGo.many,⟨LGo.sort,LGo.at_,LGo.run⟩,LGo.sortG,LGo.there⟩
 refine W.call rfl rfl rfl (runsS_w (Rp.ext XM ss0) (rh.ext XM) (XM.fr fr) sm sl (by omega) λh5 va ea X5 e5 r5 _=> ?_)
 obtain rfl:=e5.2 ok
 obtain⟨cssA,obA⟩:=r5 rfl
 have sA:=obA.toSl
 have L1:=L1.ext X5
 have L3:=L3.ext X5
 have L4:=L4.ext X5
 refine W.k4 1 3 4 49 λT=> ?_
 repeat refine W.g ?_
 have X05:=XM.trans X5
 refine W.call rfl rfl rfl (runsS_w (s:=o) (Rp.ext X5 ro) (rh.ext X05) (X05.fr fr) (by rw[ow];exact sm) (by rw[ow];exact sl) (by rw[og];omega) λh6 vb eb X6 e6 r6 _=> ?_)
 obtain rfl:=e6.2 okO
 obtain⟨cssB,obB⟩:=r6 rfl
 have sB:=obB.toSl
 have sA:=sA.ext X6
 have L1:=L1.ext X6
 have L3:=L3.ext X6
 have L4:=L4.ext X6
 have X06:=X05.trans X6
 clear obA obB r5 r6 e5 e6 sv
 refine W.k6 1 3 4 5 6 54 λT=> ?_
 repeat refine W.g ?_
 refine W.call rfl rfl rfl (check_state_w (s:=o) (Rp.ext (X5.trans X6) ro) (rh.ext X06) (X06.fr fr) (by rw[ow];exact sm) (by rw[ow];exact sl) (by rw[og];omega) λh7 e7 X7 he7=> ?_)
 obtain rfl:=he7.2 okO
 have X07:=X06.trans X7
 have sA:=sA.ext X7
 have sB:=sB.ext X7
 have L1:=L1.ext X7
 have L3:=L3.ext X7
 have L4:=L4.ext X7
 have eG:s.goes.length=o.goes.length:=by
  unfold StateD.goes
  rw[List.length_map,List.length_map,ow,og]
 have eG':(s.goes.length:Int)=(o.goes.length:Int):=by omega
 refine W.k8 1 3 4 5 6 7 8 58 λT=> ?_
 repeat refine W.g ?_
 refine W.call rfl rfl rfl (sameL_w (s:=s) (o:=o) (Rp.ext X07 ss0) (Rp.ext ((X5.trans X6).trans X7) ro) (X07.fr fr) ow sm (by rw[ol,lt_len];omega) λh8 X8=> ?_)
 have X08:=X07.trans X8
 have sA:=sA.ext X8
 have sB:=sB.ext X8
 have L4:=L4.ext X8
 clear L1 L3
 refine W.k5 4 5 7 75 78 λT=> ?_
 repeat refine W.g ?_
 refine W.k4 4 5 7 9 λT=> ?_
 rw[<-hb4]at L4
 rw[<-hb4]
 have hgl:s.goes.length<=16384:=by
  have h1:=runs_len (WorldD.fine c) s.w.trips.length (Nat.le_refl _)
  have h2:s.goes.length<=(s.w.runs s.w.trips.length).length:=by unfold StateD.goes;rw[List.length_map];exact List.length_filter_le _ _
  omega
 refine W.loop (σ:=Nat) (λi tm h'=>Ext h8 h'/\tm.look 4= .ptr (some (b4,0))/\tm.look 5=va/\tm.look 7=vb/\tm.look 9= .int .i64 (i:Int)/\i<=s.goes.length) (λi=>s.goes.length-i) ?_ (s:=0) ⟨Ext.refl _,rfl,rfl,rfl,rfl,Nat.zero_le _⟩
 rintro n tm h' ⟨X,w4,w5,w7,w9,hi⟩
 obtain⟨T,rfl⟩:=Tm.t4 w4 w5 w7 w9
 clear w4 w5 w7 w9
 by_cases ci:n<s.goes.length
 rotate_left
 ·have sA:=sA.ext X
  repeat refine W.g ?_
  exact⟨_,rfl⟩
 have cj:n<o.goes.length:=by omega
 have XH:=X08.trans X
 have L4k:=L4
 have L4:=L4.ext X
 have e00:o.goes0=s.goes0:=by unfold StateD.goes0;rw[ow,og]
 obtain⟨q0,eA,hr⟩:=StateD.goes_at ci
 obtain⟨q1,eB,_⟩:=StateD.goes_at cj
 obtain⟨r,her⟩:∃r,r=s.goes0[n]:=⟨_,rfl⟩
 rw[<-her]at eA hr
 rw[show o.goes0[n]=r from by rw[her];exact List.getElem_of_eq e00 _]at eB
 have one:=runs_one c hr
 have la3:=StateD.less_at hl LGs one
 rw[<-ho]at la3
 have bnd:∀p,p<(o.asIs r).dep.length->0<=(o.asIs r).dep.getD p 0/\(o.asIs r).dep.getD p 0<=1125899906842624:=λp hp=>StateD.asIs_dep LGo (by rw[ow];exact c) (by rw[ow];exact hr) hp
 obtain⟨A,hA⟩:∃A,A=s.asIs r:=⟨_,rfl⟩
 obtain⟨B,hB⟩:∃B,B=o.asIs r:=⟨_,rfl⟩
 have keepA:=LGs.keep one
 have rl:=runs_long c hr
 rw[<-hA]at eA la3 keepA
 rw[<-hB]at eB la3 bnd
 obtain⟨q1',q2,q3⟩:=la3
 have sA':=sA.ext X
 have sB':=sB.ext X
 repeat refine W.g ?_
 have ds:=DX.start (XH.fr fr)
 refine W.cutB (λtm h9=>Ext h' h9/\tm.look 4= .ptr (some (b4,0))/\tm.look 5=va/\tm.look 7=vb/\tm.look 9= .int .i64 (n:Int)/\∃b:Bool,tm.look 10= .bool b/\(b=true↔d.isOf A)) ?_ ?_
 ·repeat refine W.gd ?_
  refine W.dixR sA' ci rfl rfl rfl rfl rfl rfl rfl λi1 o1 e1 M1 r1=> ?_
  rw[eA]at r1
  obtain⟨x1,x2,rfl,y1,y2⟩:=id r1
  by_cases f1:A.trip=d.trip
  rotate_left
  ·repeat (first|refine W.gd ?_|refine W.e λr_ h_ ds_ s_=> ?_)
   repeat refine W.g ?_
   exact⟨ds_.x,rfl,rfl,rfl,rfl,false,rfl,Iff.intro (λh=>by cases h) (λh=>absurd h.1 f1)⟩
  repeat (first|refine W.gd ?_|refine W.e λr_ h_ ds_ s_=> ?_)
  refine W.dixR sA' ci rfl rfl rfl rfl rfl rfl rfl λi2 o2 e2 M2 r2=> ?_
  rw[eA]at r2
  obtain⟨x3,x4,rfl,y3,y4⟩:=id r2
  by_cases f2:A.no=d.no
  ·repeat (first|refine W.gd ?_|refine W.e λr_ h_ ds_ s_=> ?_)
   repeat refine W.g ?_
   exact⟨ds_.x,rfl,rfl,rfl,rfl,true,rfl,Iff.intro (λ_=>⟨f1,f2⟩) (λ_=>rfl)⟩
  ·repeat (first|refine W.gd ?_|refine W.e λr_ h_ ds_ s_=> ?_)
   repeat refine W.g ?_
   exact⟨ds_.x,rfl,rfl,rfl,rfl,false,rfl,Iff.intro (λh=>by cases h) (λh=>absurd h.2 f2)⟩
 clear ds sA' sB'
 rintro tm h9 ⟨X9,w4,w5,w7,w9,b,w10,hb⟩
 obtain⟨T,rfl⟩:=Tm.t5 w4 w5 w7 w9 w10
 clear w4 w5 w7 w9 w10
 have XI:=XH.trans X9
 have X89:=X.trans X9
 have sA':=sA.ext X89
 have sB':=sB.ext X89
 have q1i:(A.dep.length:Int)=(B.dep.length:Int):=by omega
 have hdm:d∈s.late:=by rw[hd];exact List.getElem_mem hkl
 have dby:=(la d hdm)
 have dby1:=dby.1
 have dby2:=dby.2.1
 clear dby
 repeat refine W.g ?_
 have ds:=DX.start (XI.fr fr)
 refine W.cutB (λtm hh=>Ext h9 hh/\tm.look 4= .ptr (some (b4,0))/\tm.look 5=va/\tm.look 7=vb/\tm.look 9= .int .i64 (n:Int)/\tm.look 10= .bool b/\tm.look 132= .bool false) ?_ ?_
 ·repeat refine W.gd ?_
  refine W.dixR sA' ci rfl rfl rfl rfl rfl rfl rfl λi1 o1 e1 M1 r1=> ?_
  rw[eA]at r1
  obtain⟨x1,x2,rfl,y1,y2⟩:=id r1
  repeat (first|refine W.gd ?_|refine W.e λr_ h_ ds_ s_=> ?_)
  refine W.dlnS y2 rfl rfl rfl rfl rfl rfl rfl ?_
  repeat refine W.gd ?_
  refine W.dixR sB' cj rfl rfl rfl rfl rfl rfl rfl λi2 o2 e2 M2 r2=> ?_
  rw[eB]at r2
  obtain⟨x3,x4,rfl,y3,y4⟩:=id r2
  repeat (first|refine W.gd ?_|refine W.e λr_ h_ ds_ s_=> ?_)
  refine W.dlnS y4 rfl rfl rfl rfl rfl rfl rfl ?_
  cases b
  ·have hAB:A=B:=q2 (λh=>by have:=hb.2 h;cases this)
   repeat refine W.gd ?_
   refine W.dixR sA' ci rfl rfl rfl rfl rfl rfl rfl λi3 o3 e3 M3 r3=> ?_
   rw[eA]at r3
   obtain⟨x5,x6,rfl,y5,y6⟩:=id r3
   repeat (first|refine W.gd ?_|refine W.e λr_ h_ ds_ s_=> ?_)
   refine W.dixR sB' cj rfl rfl rfl rfl rfl rfl rfl λi4 o4 e4 M4 r4=> ?_
   rw[eB,<-hAB]at r4
   obtain⟨x7,x8,rfl,y7,y8⟩:=id r4
   repeat refine W.e λr_ h_ ds_ s_=> ?_
   refine W.dcallZ ds_ rfl rfl rfl rfl (runSame_w (d:=A) (Rp.ext ds_.x r3) (Rp.ext ds_.x r4) ((XI.trans ds_.x).fr fr) (by omega) (by omega) λh10 X10=>DZ.val X10 λq10 n10 ds10 t10=> ?_)
   repeat refine W.gd ?_
   repeat refine W.g ?_
   exact⟨ds10.x,rfl,rfl,rfl,rfl,rfl,rfl⟩
  ·repeat refine W.gd ?_
   repeat refine W.g ?_
   exact⟨ds_.x,rfl,rfl,rfl,rfl,rfl,rfl⟩
 clear ds sA' sB'
 rintro tm hh ⟨Xh,w4,w5,w7,w9,w10,w132⟩
 obtain⟨T,rfl⟩:=Tm.t6 w4 w5 w7 w9 w10 w132
 clear w4 w5 w7 w9 w10 w132
 have X8h:=X89.trans Xh
 repeat refine W.g ?_
 refine W.k6 4 5 7 9 10 11 λT=> ?_
 refine W.loop (σ:=Nat) (λp tm h2=>Ext h8 h2/\tm.look 4= .ptr (some (b4,0))/\tm.look 5=va/\tm.look 7=vb/\tm.look 9= .int .i64 (n:Int)/\tm.look 10= .bool b/\tm.look 11= .int .i64 (p:Int)/\p<=A.dep.length) (λp=>A.dep.length-p) ?_ (s:=0) ⟨X8h,rfl,rfl,rfl,rfl,rfl,rfl,Nat.zero_le _⟩
 rintro p tm h2 ⟨X2,w4,w5,w7,w9,w10,w11,hp⟩
 obtain⟨T,rfl⟩:=Tm.t6 w4 w5 w7 w9 w10 w11
 clear w4 w5 w7 w9 w10 w11
 have XJ:=X08.trans X2
 have sA2:=sA.ext X2
 have sB2:=sB.ext X2
 have L4:=L4k.ext X2
 repeat refine W.g ?_
 refine W.ixR sA2 ci rfl rfl rfl rfl rfl rfl rfl λi1 o1 e1 M1 r1=> ?_
 rw[eA]at r1
 obtain⟨x1,x2,rfl,y1,y2⟩:=id r1
 by_cases cp:p<A.dep.length
 rotate_left
 ·repeat refine W.g ?_
  exact⟨n+1,lessN ci,X2,rfl,rfl,rfl,rfl,ci⟩
 have cpB:p<B.dep.length:=by omega
 have q3p:=q3 p cp
 have bB:=bnd p cpB
 by_cases cc:d.isOf A/\d.pos<=(p:Int)
 ·rw[if_pos cc]at q3p
  obtain rfl:b=true:=hb.2 cc.1
  have cc2:=cc.2
  repeat refine W.g ?_
  refine W.k7 4 5 7 9 10 11 12 λT=> ?_
  have ds:=DX.start (XJ.fr fr)
  repeat refine W.gd ?_
  refine W.dixR sA2 ci rfl rfl rfl rfl rfl rfl rfl λi3 o3 e3 M3 r3=> ?_
  rw[eA]at r3
  obtain⟨x3,x4,rfl,y3,y4⟩:=id r3
  repeat (first|refine W.gd ?_|refine W.e λr_ h_ ds_ s_=> ?_)
  refine W.dixF y4 cp rfl rfl rfl rfl rfl rfl rfl λi5 o5 M5=> ?_
  replace M5:=show LocE h2 i5 o5 [.int .i64 (A.dep.getD p 0)]from by rw[getZ cp];exact M5
  repeat (first|refine W.gd ?_|refine W.e λr_ h_ ds_ s_=> ?_)
  refine W.dixR sB2 cj rfl rfl rfl rfl rfl rfl rfl λi4 o4 e4 M4 r4=> ?_
  rw[eB]at r4
  obtain⟨x5,x6,rfl,y5,y6⟩:=id r4
  repeat (first|refine W.gd ?_|refine W.e λr_ h_ ds_ s_=> ?_)
  refine W.dixF y6 cpB rfl rfl rfl rfl rfl rfl rfl λi6 o6 M6=> ?_
  replace M6:=show LocE h2 i6 o6 [.int .i64 (B.dep.getD p 0)]from by rw[getZ cpB];exact M6
  repeat (first|refine W.gd ?_|refine W.e λr_ h_ ds_ s_=> ?_)
  repeat refine W.g ?_
  exact⟨p+1,lessN cp,X2.trans ds_.x,rfl,rfl,rfl,rfl,rfl,rfl,cp⟩
 ·rw[if_neg cc]at q3p
  by_cases bb:b=true
  ·subst bb
   have c3:¬d.pos<=(p:Int):=λh=>cc ⟨hb.1 rfl,h⟩
   repeat refine W.g ?_
   refine W.k7 4 5 7 9 10 11 12 λT=> ?_
   have ds:=DX.start (XJ.fr fr)
   repeat refine W.gd ?_
   refine W.dixR sA2 ci rfl rfl rfl rfl rfl rfl rfl λi3 o3 e3 M3 r3=> ?_
   rw[eA]at r3
   obtain⟨x3,x4,rfl,y3,y4⟩:=id r3
   repeat (first|refine W.gd ?_|refine W.e λr_ h_ ds_ s_=> ?_)
   refine W.dixF y4 cp rfl rfl rfl rfl rfl rfl rfl λi5 o5 M5=> ?_
   replace M5:=show LocE h2 i5 o5 [.int .i64 (A.dep.getD p 0)]from by rw[getZ cp];exact M5
   repeat (first|refine W.gd ?_|refine W.e λr_ h_ ds_ s_=> ?_)
   refine W.dixR sB2 cj rfl rfl rfl rfl rfl rfl rfl λi4 o4 e4 M4 r4=> ?_
   rw[eB]at r4
   obtain⟨x5,x6,rfl,y5,y6⟩:=id r4
   repeat (first|refine W.gd ?_|refine W.e λr_ h_ ds_ s_=> ?_)
   refine W.dixF y6 cpB rfl rfl rfl rfl rfl rfl rfl λi6 o6 M6=> ?_
   replace M6:=show LocE h2 i6 o6 [.int .i64 (B.dep.getD p 0)]from by rw[getZ cpB];exact M6
   repeat (first|refine W.gd ?_|refine W.e λr_ h_ ds_ s_=> ?_)
   repeat refine W.g ?_
   exact⟨p+1,lessN cp,X2.trans ds_.x,rfl,rfl,rfl,rfl,rfl,rfl,cp⟩
  ·obtain rfl:b=false:=by
     cases b
     ·rfl
     ·exact absurd rfl bb
   repeat refine W.g ?_
   refine W.k7 4 5 7 9 10 11 12 λT=> ?_
   have ds:=DX.start (XJ.fr fr)
   repeat refine W.gd ?_
   refine W.dixR sA2 ci rfl rfl rfl rfl rfl rfl rfl λi3 o3 e3 M3 r3=> ?_
   rw[eA]at r3
   obtain⟨x3,x4,rfl,y3,y4⟩:=id r3
   repeat (first|refine W.gd ?_|refine W.e λr_ h_ ds_ s_=> ?_)
   refine W.dixF y4 cp rfl rfl rfl rfl rfl rfl rfl λi5 o5 M5=> ?_
   replace M5:=show LocE h2 i5 o5 [.int .i64 (A.dep.getD p 0)]from by rw[getZ cp];exact M5
   repeat (first|refine W.gd ?_|refine W.e λr_ h_ ds_ s_=> ?_)
   refine W.dixR sB2 cj rfl rfl rfl rfl rfl rfl rfl λi4 o4 e4 M4 r4=> ?_
   rw[eB]at r4
   obtain⟨x5,x6,rfl,y5,y6⟩:=id r4
   repeat (first|refine W.gd ?_|refine W.e λr_ h_ ds_ s_=> ?_)
   refine W.dixF y6 cpB rfl rfl rfl rfl rfl rfl rfl λi6 o6 M6=> ?_
   replace M6:=show LocE h2 i6 o6 [.int .i64 (B.dep.getD p 0)]from by rw[getZ cpB];exact M6
   repeat (first|refine W.gd ?_|refine W.e λr_ h_ ds_ s_=> ?_)
   repeat refine W.g ?_
   exact⟨p+1,lessN cp,X2.trans ds_.x,rfl,rfl,rfl,rfl,rfl,rfl,cp⟩
end
end Go.Proofs.YtnjkaahbhebaeaaGreatDoor
