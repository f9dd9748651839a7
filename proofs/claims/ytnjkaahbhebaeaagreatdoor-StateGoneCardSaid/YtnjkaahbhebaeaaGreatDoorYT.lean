/- A table that is new; where the names of each kind lie. No condition but that memory beyond the next number is empty. -/
import Derived.Test.YtnjkaahbhebaeaaGreatDoorXU
import Derived.Test.YtnjkaahbhebaeaaGreatDoorYR
import Derived.Test.YtnjkaahbhebaeaaGreatDoorXZ
set_option linter.unusedVariables false
set_option linter.unusedSimpArgs false
set_option maxRecDepth 100000
namespace Go.Proofs.YtnjkaahbhebaeaaGreatDoor
open Go Go.CM Go.CM.Tt
noncomputable section
set_option maxHeartbeats 8000000
theorem kinds_w {h:Heap} {tm:Tm} {Q:R->Prop} {p o:Nat} (fr:Fresh h) (q:∀h' z,Ext h h'->h.next<=z->z<h'.next->LocE h' z 0 [.slice none 0 0 0]->Q (.val (.agg [.ptr (some (z,0)),.ptr (some (p,o+0)),.ptr (some (p,o+1)),.ptr (some (p,o+2)),.ptr (some (p,o+3)),.ptr (some (p,o+4)),.ptr (some (p,o+5))]) h')):W E1 (.call (.fn 171 [] []) [.ptr (some (p,o))]) tm h Q:=by
 refine W.fn (s:=fnOf Tryz.f171) rfl rfl rfl rfl ?_;repeat (first|refine W.g ?_|refine W.m λh_ X_ n_ g_ L_=> ?_|refine W.n λh_ X_ n_ g_ S_=> ?_|refine W.opn rfl rfl rfl ?_)
 have ds:=DX.start (X_.fr fr);refine W.dalZ ds rfl rfl rfl λr1 h1 ds1 x1 n1 g1=> ?_;repeat refine W.gd ?_
 refine W.dst (vs:=[.ptr (some (h_.next,0)),.ptr (some (p,o+0)),.ptr (some (p,o+1)),.ptr (some (p,o+2)),.ptr (some (p,o+3)),.ptr (some (p,o+4)),.ptr (some (p,o+5))]) (cs':=[.ptr (some (h_.next,0)),.ptr (some (p,o+0)),.ptr (some (p,o+1)),.ptr (some (p,o+2)),.ptr (some (p,o+3)),.ptr (some (p,o+4)),.ptr (some (p,o+5))]) ds1.hri rfl rfl rfl rfl rfl rfl rfl ((ds1.x.old h.next (by omega)).trans g_) rfl λr4 h4 hr4 s4=> ?_;have g4:h4.get h.next=some (.cells [.ptr (some (h_.next,0)),.ptr (some (p,o+0)),.ptr (some (p,o+1)),.ptr (some (p,o+2)),.ptr (some (p,o+3)),.ptr (some (p,o+4)),.ptr (some (p,o+5))] false):=by rw[s4.get,put_same]
 have Xf:Ext h h4:=((X_.trans x1).put (Nat.le_refl _) (by omega) _).trans s4.ext;repeat refine W.gd ?_
 repeat (first|refine W.g ?_|refine W.m λh_ X_ n_ g_ L_=> ?_|refine W.n λh_ X_ n_ g_ S_=> ?_|refine W.opn rfl rfl rfl ?_)
 refine BodyQ.cell1 rfl rfl g4 rfl rfl ?_;refine q _ h_.next Xf (by omega) (by rw[s4.next];show h_.next<h1.next;omega) ⟨_,_,(by rw[s4.get,Heap.get_put,if_neg (by omega)];exact g1),by rw[s4.next];show h_.next<h1.next;omega,rfl⟩
structure TabR (h:Heap) (lo tb:Nat) (P:Nat->Prop) (names:List Str):Prop where
 c:∃v mb es clock,h.get tb=some (.cells [v,.map (some mb)] false)/\tb<h.next/\OwnR h lo 1 v (names.map Flat.enc)/\h.get mb=some (.map es clock)/\mb<h.next/\es.map (·.key)=names.map CV.str/\lo<=tb/\lo<=mb/\tb≠mb/\idOf v≠[tb]/\idOf v≠[mb]/\∀k,P k->k<h.next/\k≠tb/\k≠mb/\idOf v≠[k]
theorem TabR.grow {h h':Heap} {lo tb:Nat} {P:Nat->Prop} {names:List Str} (t:TabR h lo tb P names) (x:Ext h h'):TabR h' lo tb (λk=>P k\/(h.next<=k/\k<h'.next)) names:=by
 obtain⟨v,mb,es,clock,gt,lt,O,gm,lm,ek,lo1,lo2,ne1,ne2,ne3,hp⟩:=t.c;refine⟨v,mb,es,clock,(x.old _ lt).trans gt,Nat.lt_of_lt_of_le lt x.next,O.ext x,(x.old _ lm).trans gm,Nat.lt_of_lt_of_le lm x.next,ek,lo1,lo2,ne1,ne2,ne3,λk hk=> ?_⟩;rcases hk with hk|⟨h1,h2⟩
 ·obtain⟨g1,g2⟩:=hp k hk
  exact⟨Nat.lt_of_lt_of_le g1 x.next,g2⟩
 ·refine⟨h2,by omega,by omega,λe=> ?_⟩
  have:=(O.idlt e).1;omega
theorem TabR.ext {h h':Heap} {lo tb:Nat} {P:Nat->Prop} {names:List Str} (t:TabR h lo tb P names) (x:Ext h h'):TabR h' lo tb P names:=by
 obtain⟨v,mb,es,clock,gt,lt,O,gm,lm,ek,lo1,lo2,ne1,ne2,ne3,hp⟩:=t.c;exact⟨v,mb,es,clock,(x.old _ lt).trans gt,Nat.lt_of_lt_of_le lt x.next,O.ext x,(x.old _ lm).trans gm,Nat.lt_of_lt_of_le lm x.next,ek,lo1,lo2,ne1,ne2,ne3,λk hk=>⟨Nat.lt_of_lt_of_le (hp k hk).1 x.next,(hp k hk).2⟩⟩
theorem new_w {h:Heap} {tm:Tm} {Q:R->Prop} (q:∀h' tb,Ext h h'->TabR h' h.next tb (λ_=>False) []->Q (.val (.tup [.ptr (some (tb,0)),.int .i64 0]) h')):W E1 (.call (.fn 281 [] []) [.slice none 0 0 0]) tm h Q:=by
 refine W.fn (s:=fnOf Tryz.f281) rfl rfl rfl rfl ?_;repeat (first|refine W.g ?_|refine W.m λh_ X_ n_ g_ L_=> ?_|refine W.n λh_ X_ n_ g_ S_=> ?_|refine W.opn rfl rfl rfl ?_)
 have g0:h_.get (h.next+1)=some (.cells [.slice none 0 0 0,.map (some h.next)] false):=g_;have n0:h_.next=h.next+2:=n_;have Xh:Ext h h_:=(Ext.new _ _).trans X_;have gm:h_.get h.next=some (.map [] 0):=(X_.old h.next (Nat.lt_succ_self _)).trans (new_same _ _);clear L_ g_ X_ n_;refine W.loop (σ:=Nat) (λk tm h'=>h'=h_/\tm.look 4= .ptr (some (h.next+1,0))/\tm.look 14= .int .i64 0/\tm.look 15= .int .i64 0) (λ_=>0) ?_ (s:=0) ⟨rfl,rfl,rfl,rfl⟩;rintro k tm h' ⟨rfl,w4,w14,w15⟩;obtain⟨T,rfl⟩:=Tm.t3 w4 w14 w15;clear w4 w14 w15;repeat (first|refine W.g ?_|refine W.m λh_ X_ n_ g_ L_=> ?_|refine W.n λh_ X_ n_ g_ S_=> ?_|refine W.opn rfl rfl rfl ?_)
 exact q _ _ Xh ⟨_,_,_,_,g0,by omega,OwnR.nil,gm,by omega,rfl,by omega,Nat.le_refl _,by omega,λe=>(by cases e),λe=>(by cases e),λ_ h=>h.elim⟩
end
end Go.Proofs.YtnjkaahbhebaeaaGreatDoor

namespace Go.Proofs.YtnjkaahbhebaeaaGreatDoor
open Go Go.CM Go.CM.Tt
noncomputable section
set_option maxHeartbeats 16000000
theorem add_w {H h:Heap} {tm:Tm} {Q:R->Prop} {tb:Nat} {P:Nat->Prop} {names:List Str} {s:Str} (X:Ext H h) (rh:RH h) (tr:TabR h H.next tb P names) (ok:NameOk s) (hm:names.length<4096)
  (q:∀h',Ext H h'->(∀k,P k->h'.get k=h.get k)->s∈names->TabR h' H.next tb P names->Q (.val (.tup [.int .i64 0,.int .i64 6]) h'))
  (q2:∀h' (n:Int),Ext H h'->h.next<=h'.next->(∀k,P k->h'.get k=h.get k)->s∉names->TabR h' H.next tb P (names++[s])->Q (.val (.tup [.int .i64 n,.int .i64 0]) h')):W E1 (.call (.fn 282 [] []) [.ptr (some (tb,0)),.str s]) tm h Q:=by
 obtain⟨v,mb,es,clock,gt,lt,O,gm,lm,ek,lo1,lo2,ne1,ne2,ne3,hp5⟩:=tr.c;obtain⟨pv,nv,cv,xv,ev⟩:=O.form;cases ev;have fk:=λ(hq:∀a b:Str,eqT E1 20 _ (.str a) (.str b)=some (bytesEq a b))=>findKey_str (E:=E1) (kt:=9) hq (s:=s) (i:=0) ek;have fk:=fk (λ_ _=>rfl);have Lt:LocE h tb 0 [.slice pv nv cv xv,.map (some mb)]:=⟨_,_,gt,lt,rfl⟩;refine W.fn (s:=fnOf Tryz.f282) rfl rfl rfl rfl ?_;repeat refine W.g ?_
 by_cases c:s∈names
 ·obtain⟨p,hp⟩:=fk.1 c
  refine W.look rfl rfl rfl rfl gm rfl rfl rfl hp rfl ?_;refine W.k3 0 1 17 λT=> ?_;repeat refine W.g ?_
  refine W.call rfl rfl rfl (name_w s rh λh1 b X1 hb=> ?_);have hb:=hb.2 ok;subst hb;repeat refine W.g ?_
  exact q _ (X.trans X1) (λk hk=>X1.old k (hp5 k hk).1) c (tr.ext X1)
 have hp:=fk.2 c;refine W.look rfl rfl rfl rfl gm rfl rfl rfl hp rfl ?_;refine W.k3 0 1 17 λT=> ?_;repeat refine W.g ?_
 refine W.call rfl rfl rfl (name_w s rh λh1 b X1 hb=> ?_);have hb:=hb.2 ok;subst hb;have O1:=O.ext X1;have sl:Sl h1 (.slice pv nv cv xv) names:=O1.toSl;repeat refine W.g ?_
 have gt1:=(X1.old tb lt).trans gt;have gm1:=(X1.old mb lm).trans gm;have lt1:=Nat.lt_of_lt_of_le lt X1.next;have lm1:=Nat.lt_of_lt_of_le lm X1.next;have XH:=X.trans X1;have L1:LocE h1 tb 0 [.slice pv nv cv xv,.map (some mb)]:=⟨_,_,gt1,lt1,rfl⟩;have dv:DV (λc=>c=tb\/c=mb\/P c) h1 [] [] []:=DV.start (λb hb=>by rcases hb with rfl|rfl|hb;exact lt1;exact lm1;exact Nat.lt_of_lt_of_le (hp5 b hb).1 X1.next)
 clear Lt gt gm fk;try refine W.dv ?_
 refine W.ldV (k:=1) dv (.inl rfl) L1 rfl rfl rfl rfl rfl rfl rfl λr1 a1 dv s1 L1=> ?_;try refine W.dv ?_
 refine W.ldV (k:=0) dv (.inl rfl) L1 rfl rfl rfl rfl rfl rfl rfl λr2 a2 dv s2 L1=> ?_;try refine W.dv ?_
 refine W.newV dv rfl rfl rfl rfl λr3 a3 dv x3 n3 g3=> ?_;have g3:a3.get a2.next=some (.cells (Flat.enc s) false):=g3;have L3:=L1.ext x3;have e2:a2.next=h1.next:=s2.next.trans s1.next;have X3:Ext h1 a3:=(s1.ext.trans s2.ext).trans x3;try refine W.dv ?_
 refine W.apV (H:=H) (z:=1) (l2:=[Flat.enc s]) dv (XH.trans X3) (O1.ext X3) (SlG.one (by show a2.next<a3.next;omega) g3) (λb hb=> ?_) rfl rfl rfl rfl rfl rfl rfl rfl rfl rfl rfl rfl rfl (by
  simp only[List.length_map,List.length_cons,List.length_nil];show _*16<=_;omega) λr4 v4 a4 dv X4 b4 n4 O4 i4=> ?_
 ·have hlt:b<a2.next:=by
    rcases hb with rfl|rfl|hb
    ·omega
    ·omega
    ·have:=(hp5 b hb).1;have:=X1.next;omega
  have hne:idOf (CV.slice pv nv cv xv)≠[b]:=by rcases hb with rfl|rfl|hb;exact ne2;exact ne3;exact(hp5 b hb).2.2.2
  intro hm;rcases List.mem_append.1 hm with hm|hm
  ·rcases O1.notIn (b:=h1.next) (Nat.le_refl _)with e|⟨i,e,_,_⟩
   ·rw[e]at hm;cases hm
   ·rw[e]at hm
    have:b=i:=by simpa using hm
    exact hne (by rw[e,this])
  ·have hm:b∈[a2.next]:=hm
   have:b=a2.next:=by simpa using hm
   omega
 have i4t:=i4 tb (by omega) ne2;have i4m:=i4 mb (by omega) ne3;obtain⟨p4,m4,c4,y4,ee⟩:=O4.form;cases ee;try refine W.dv ?_
 refine W.ldV (k:=0) dv (.inl rfl) (L3.of_get (b4 tb (.inl rfl)) n4) rfl rfl rfl rfl rfl rfl rfl λr5 a5 dv s5 L5=> ?_;try refine W.dv ?_
 have gt5:a5.get tb=some (.cells [.slice pv nv cv xv,.map (some mb)] false):=(s5.get tb).trans ((b4 tb (.inl rfl)).trans ((X3.old tb lt1).trans gt1));have gm5:a5.get mb=some (.map es clock):=(s5.get mb).trans ((b4 mb (.inr (.inl rfl))).trans ((X3.old mb lm1).trans gm1));have n35:h1.next<=a5.next:=by have:=s5.next;have:=X3.next;omega
 refine W.dst (vs:=[.slice p4 m4 c4 y4]) (cs':=[.slice p4 m4 c4 y4,.map (some mb)]) (λr hr=>(dv.d.r r hr).1) rfl rfl rfl rfl rfl rfl rfl gt5 rfl λr6 a6 hr6 s6=> ?_;try refine W.dv ?_
 have gm6:a6.get mb=some (.map es clock):=by rw[s6.get,Heap.get_put,if_neg ne1];exact gm5
 refine W.dment hr6 rfl rfl rfl rfl rfl gm6 rfl rfl rfl hp rfl λr7 a7 hr7 s7=> ?_;try refine W.dv ?_
 have gm7:a7.get mb=some (.map (es++[⟨.str s,.int .i64 0,clock⟩]) (clock+1)):=by rw[s7.get,put_same]
 refine W.dest (b:=clock) hr7 rfl rfl rfl rfl rfl rfl gm7 ⟨⟨.str s,.int .i64 0,clock⟩,List.mem_append_right _ (by simp),rfl⟩ λr8 a8 es' hr8 hk8 s8=> ?_;try refine W.dv ?_
 have gt8:a8.get tb=some (.cells [.slice p4 m4 c4 y4,.map (some mb)] false):=by rw[s8.get,Heap.get_put,if_neg (Ne.symm ne1),s7.get,Heap.get_put,if_neg (Ne.symm ne1),s6.get,put_same]
 have gm8:a8.get mb=some (.map es' (clock+1)):=by rw[s8.get,put_same]
 have n8:a8.next=a5.next:=by rw[s8.next];show a7.next=_;rw[s7.next];show a6.next=_;rw[s6.next];rfl
 have k8:∀k,k≠tb->k≠mb->a8.get k=a5.get k:=λk h1 h2=>by rw[s8.get,Heap.get_put,if_neg (Ne.symm h2),s7.get,Heap.get_put,if_neg (Ne.symm h2),s6.get,Heap.get_put,if_neg (Ne.symm h1)]
 have X5:Ext H a5:=X4.trans s5.ext
 have X8:Ext H a8:=⟨by rw[n8];exact X5.next,λk hk=>(k8 k (by omega) (by omega)).trans (X5.old k hk),λf k hk=>by
  rw[n8]at hk;exact(k8 k (by omega) (by omega)).trans (X5.fr f k hk)⟩
 have O8:=(O4.ext s5.ext).other (h':=a8) (by rw[n8];exact Nat.le_refl _) λk _ _ hk=>k8 k (λe=>i4t (by rw[hk,e])) (λe=>i4m (by rw[hk,e]))
 have ek8:es'.map (·.key)=(names++[s]).map CV.str:=by
  rw[hk8,List.map_append,List.map_append,ek];rfl
 have L8:LocE a8 tb 0 [.slice p4 m4 c4 y4,.map (some mb)]:=⟨_,_,gt8,by omega,rfl⟩;have O8:OwnR a8 H.next 1 (.slice p4 m4 c4 y4) ((names++[s]).map Flat.enc):=by rw[map_app];exact O8
 have sl8:Sl a8 (.slice p4 m4 c4 y4) (names++[s]):=O8.toSl;have hlen:(names++[s]).length=names.length+1:=by simp
 clear L1 L3 L5 sl;repeat refine W.g ?_
 refine q2 _ _ X8 (by have:=X1.next;omega) (λk hk=> ?_) c ⟨_,mb,es',clock+1,gt8,by omega,O8,gm8,by omega,ek8,lo1,lo2,ne1,i4t,i4m,λk hk=> ?_⟩
 ·obtain⟨p1,p2,p3,p4⟩:=hp5 k hk
  have hk1:k<h1.next:=Nat.lt_of_lt_of_le p1 X1.next;exact(k8 k p2 p3).trans ((s5.get k).trans ((b4 k (.inr (.inr hk))).trans ((X3.old k hk1).trans (X1.old k p1))))
 ·obtain⟨p1,p2,p3,p4⟩:=hp5 k hk
  have:=X1.next;have:=X3.next;exact⟨by omega,p2,p3,i4 k (by omega) p4⟩
end
end Go.Proofs.YtnjkaahbhebaeaaGreatDoor
