/- What is wrong with a world that was numbered. No condition but that the table of spaces lies where it does and memory beyond the next number is empty. -/
import Derived.Test.YtmgpjfnlciapkaaGreatDoorXU
import Derived.Test.YtmgpjfnlciapkaaGreatDoorYS
import Derived.Test.YtmgpjfnlciapkaaGreatDoorZYa
import Derived.Test.YtmgpjfnlciapkaaGreatDoorYG
import Derived.Test.YtmgpjfnlciapkaaGreatDoorYL
import Derived.Test.YtmgpjfnlciapkaaGreatDoorXZ
import Derived.Test.YtmgpjfnlciapkaaGreatDoorZB
import Derived.Test.YtmgpjfnlciapkaaGreatDoorZYc
set_option linter.unusedVariables false
set_option linter.unusedSimpArgs false
namespace Go.Proofs.YtmgpjfnlciapkaaGreatDoor
open Go Go.CM Go.CM.Tt
noncomputable section
set_option maxHeartbeats 16000000
theorem wrong_w {h:Heap} {tm:Tm} {Q:R->Prop} {wb:Nat} {cs:List CV} {w:WorldD} (rh:RH h) (fr:Fresh h) (Lw:LocE h wb 0 cs) (r:Rp.R h cs w) (okN:∀l∈w.names.lists,∀s∈l,NameOk s) (few:(w.names.lists.flatten).length<4096) (ln:w.names.paths.length=w.paths.length/\w.names.doors.length=w.doors.length/\w.names.routes.length=w.routes.length/\w.names.trips.length=w.trips.length/\w.names.hazards.length=w.hazards.length) (rt:∀r∈w.routes,r.rides.length+1=r.stops.length/\r.stops.length<=1000)
  (q:∀h',Ext h h'->Q (.val (.agg w.wrong.enc) h')):W E1 (.call (.fn 26 [] []) [.ptr (some (wb,0))]) tm h Q:=by
 have r0:=r;obtain⟨v1,v2,v3,v4,v5,v6,v7,v8,v9,v10,v11,rfl,s1,s2,s3,s4,s5,s6,s7,s8,s9,s10,s11⟩:=r;refine W.fn (s:=fnOf Tryz.f26) rfl rfl rfl rfl ?_;repeat (refine W.seq ?_)
 refine W.region ?_;refine W.al rfl rfl rfl λHa Xa na ga La=> ?_;repeat (first|refine W.g ?_|refine W.m λh_ X_ n_ g_ L_=> ?_)
 have Lc0:LocE h_ Ha.next 0 [.ptr none,.ptr (some (wb,0))]:=L_;have gc0:h_.get Ha.next=some (.cells [.ptr none,.ptr (some (wb,0))] false):=g_;obtain⟨Hb,hHb⟩:∃Hb,Hb=h_:=⟨_,rfl⟩;rw[<-hHb]at Lc0 gc0 X_ n_;have Xb:=Xa.trans X_;refine W.call rfl rfl rfl (new_w λh1 tb X1 tr=> ?_);rw[<-hHb]at X1 tr;refine W.k5 0 2 3 19 20 λT=> ?_;clear hHb L_ g_;repeat refine W.g ?_
 refine W.stn (vs:=[.ptr (some (tb,0))]) (cs':=[.ptr (some (tb,0)),.ptr (some (wb,0))]) rfl rfl rfl rfl rfl rfl ((X1.old _ (by omega)).trans gc0) rfl λG1 nG gG kG=> ?_;obtain⟨Hc,hHc⟩:∃Hc,Hc=Hb.put Ha.next (.cells [.ptr (some (tb,0)),.ptr (some (wb,0))] false):=⟨_,rfl⟩;have nc:Hc.next=Hb.next:=by rw[hHc];rfl
 have gcc:Hc.get Ha.next=some (.cells [.ptr (some (tb,0)),.ptr (some (wb,0))] false):=by rw[hHc,put_same]
 have kc:∀k,k≠Ha.next->Hc.get k=Hb.get k:=λk hk=>by rw[hHc,Heap.get_put,if_neg (Ne.symm hk)]
 have XC:Ext Hc G1:=⟨by rw[nc,nG];exact X1.next,λk hk=>by
  rw[nc]at hk;by_cases e:k=Ha.next
  ·rw[e,gcc];exact gG
  ·rw[kG k e,kc k e];exact X1.old k hk,λf k hk=>by
  have hn:=X1.next;rw[kG k (by omega)];refine X1.fr (λj hj=> ?_) k (by rw[<-nG];exact hk);rw[<-kc j (by omega)];exact f j (by omega)⟩
 have Xhc:Ext h Hc:=⟨by rw[nc];exact Xb.next,λk hk=>(kc k (by omega)).trans (Xb.old k hk),λf k hk=>(kc k (by omega)).trans (Xb.fr f k (by omega))⟩
 have tr1:TabR G1 Hc.next tb (λ_=>False) []:=by
  obtain⟨v,mb,es,clock,gt,lt,O,gm,lm,ek,lo1,lo2,ne1,ne2,ne3,hp⟩:=tr.c;rw[nc];exact⟨v,mb,es,clock,(kG _ (by omega)).trans gt,by omega,O.other (by rw[nG];exact Nat.le_refl _) λk hk _ _=>kG k (by omega),(kG _ (by omega)).trans gm,by omega,ek,lo1,lo2,ne1,ne2,ne3,λ_ h=>h.elim⟩
 have Lcc:LocE Hc Ha.next 0 [.ptr (some (tb,0)),.ptr (some (wb,0))]:=⟨_,_,gcc,by omega,rfl⟩;have g2c:Hc.get h.next=some (.cells [.int .i64 0,.int .i64 0,.int .i64 0] false):=(kc _ (by omega)).trans ((X_.old _ (by omega)).trans ga);have ncb:h.next<Ha.next:=by omega
 clear hHc kc gcc gG kG tr X1 gc0 Lc0 nG Xb X_ ga La;refine W.k3 2 3 0 λT=> ?_;repeat refine W.g ?_
 have Xg:=Xhc.trans XC;refine W.call rfl rfl rfl (kinds_w (Xg.fr fr) λh2 z X2 z1 z2 Lz=> ?_);refine W.k3 2 3 29 λT=> ?_;repeat (first|refine W.g ?_|refine W.m λh_ X_ n_ g_ L_=> ?_)
 have tr2:=tr1.grow (X2.trans X_);obtain⟨P,hP⟩:∃P:Nat->Prop,P=λk=>False\/(G1.next<=k/\k<h_.next):=⟨_,rfl⟩;rw[<-hP]at tr2;obtain⟨ps,hps⟩:∃ps:List CV,ps=[.ptr (some (z,0)),.ptr (some (wb,0+1+0)),.ptr (some (wb,0+1+1)),.ptr (some (wb,0+1+2)),.ptr (some (wb,0+1+3)),.ptr (some (wb,0+1+4)),.ptr (some (wb,0+1+5))]:=⟨_,rfl⟩;have ga4:h_.get h2.next=some (.cells ps false):=by rw[hps];exact g_
 obtain⟨lists,hlists⟩:∃lists,lists=w.names.lists:=⟨_,rfl⟩
 have fam:∀k,k<7->∃p o v,nth ps k=some (.ptr (some (p,o)))/\∀J,Ext Hc J->(∀c,P c->J.get c=h_.get c)->h_.next<=J.next->LocE J p o [v]/\Sl J v (lists.getD k []):=by
  intro k hk;rw[hps,hlists];have Lz2:=Lz.ext X_;rcases k with _|_|_|_|_|_|_|k
  ·exact⟨z,0,_,rfl,λJ XJ PJ nJ=>⟨Lz2.of_get (PJ z (by rw[hP];exact .inr ⟨z1,Nat.lt_of_lt_of_le z2 X_.next⟩)) nJ,Sl.nil⟩⟩
  ·exact⟨wb,0+1+0,v1,rfl,λJ XJ _ _=>⟨LocE.sub (k:=1) (m:=1) (Lw.ext (Xhc.trans XJ)) rfl,s1.ext (Xhc.trans XJ)⟩⟩
  ·exact⟨wb,0+1+1,v2,rfl,λJ XJ _ _=>⟨LocE.sub (k:=2) (m:=1) (Lw.ext (Xhc.trans XJ)) rfl,s2.ext (Xhc.trans XJ)⟩⟩
  ·exact⟨wb,0+1+2,v3,rfl,λJ XJ _ _=>⟨LocE.sub (k:=3) (m:=1) (Lw.ext (Xhc.trans XJ)) rfl,s3.ext (Xhc.trans XJ)⟩⟩
  ·exact⟨wb,0+1+3,v4,rfl,λJ XJ _ _=>⟨LocE.sub (k:=4) (m:=1) (Lw.ext (Xhc.trans XJ)) rfl,s4.ext (Xhc.trans XJ)⟩⟩
  ·exact⟨wb,0+1+4,v5,rfl,λJ XJ _ _=>⟨LocE.sub (k:=5) (m:=1) (Lw.ext (Xhc.trans XJ)) rfl,s5.ext (Xhc.trans XJ)⟩⟩
  ·exact⟨wb,0+1+5,v6,rfl,λJ XJ _ _=>⟨LocE.sub (k:=6) (m:=1) (Lw.ext (Xhc.trans XJ)) rfl,s6.ext (Xhc.trans XJ)⟩⟩
  ·omega
 have XK:Ext Hc h_:=XC.trans (X2.trans X_);have rhc:=rh.ext Xhc;have pa:P h2.next:=by rw[hP];exact .inr ⟨X2.next,by omega⟩
 have pl:∀c,P c->c<h_.next:=λc hc=>by rw[hP]at hc;exact hc.elim (λf=>f.elim) (·.2)
 refine W.k5 2 3 4 30 31 λT=> ?_;obtain⟨K,hK⟩:∃K,K=h_:=⟨_,rfl⟩;rw[<-hK]at ga4 fam XK tr2 n_ pl;rw[<-hK];have nK:h2.next<K.next:=by omega
 clear hK g_ L_ X_ n_ Lz
 refine W.loop (σ:=Nat) (λk tm h'=>(tm.look 2= .ptr (some (h.next,0))/\tm.look 3= .ptr (some (Ha.next,0))/\tm.look 4= .ptr (some (h2.next,0))/\tm.look 30= .agg ps/\tm.look 31= .int .i64 (k:Int))/\k<=7/\Ext Hc h'/\(∀c,P c->h'.get c=K.get c)/\K.next<=h'.next/\TabR h' Hc.next tb P (lists.take k).flatten/\∀n l,n<k->lists[n]? =some l->Tt.Clean ((lists.take n).flatten) l l.length) (λk=>7-k) ?_ (s:=0)
  ⟨⟨rfl,rfl,rfl,by rw[hps];rfl,rfl⟩,Nat.zero_le _,XK,λ_ _=>rfl,Nat.le_refl _,tr2,λn l hn=>by omega⟩
 rintro k tm h' ⟨⟨w2,w3,w4,w30,w31⟩,hk,X,PX,nX,tr,hcl⟩;obtain⟨T,rfl⟩:=Tm.t5 w2 w3 w4 w30 w31;clear w2 w3 w4 w30 w31;by_cases c1:k<7
 ·obtain⟨p,o,v,hpk,hv⟩:=fam k c1
  obtain⟨Lv,sv⟩:=hv h' X PX nX;obtain⟨l,hl⟩:∃l,l=lists.getD k []:=⟨_,rfl⟩;rw[<-hl]at sv;have hlk:lists[k]? =some l:=by rw[hl,hlists];rcases k with _|_|_|_|_|_|_|k<;>first|rfl|omega
  repeat refine W.g ?_
  refine W.ixv rfl rfl rfl rfl rfl rfl rfl rfl rfl (place_of (j:=k) rfl c1) hpk ?_;repeat refine W.g ?_
  have hlen:l.length<4096/\∀i,i<=l.length->((lists.take k).flatten++l.take i).length<4096:=by
   have e:lists=lists.take k++(l::lists.drop (k+1)):=by
    have hlt:=(List.getElem?_eq_some_iff.1 hlk).1
    conv=>lhs;rw[<-List.take_append_drop k lists,List.drop_eq_getElem_cons hlt]
    rw[List.getElem?_eq_getElem hlt]at hlk;rw[Option.some.inj hlk]
   have hf:(lists.take k).flatten.length+l.length<=lists.flatten.length:=by
    conv=>rhs;rw[e,List.flatten_append,List.length_append,List.flatten_cons,List.length_append]
    omega
   rw[<-hlists]at few;refine⟨by omega,λi hi=> ?_⟩;rw[List.length_append,List.length_take];omega
  have okl:∀s∈l,NameOk s:=okN l (by rw[<-hlists];exact List.mem_of_getElem? hlk)
  refine W.loop (σ:=Nat) (λi tm h'=>(tm.look 2= .ptr (some (h.next,0))/\tm.look 3= .ptr (some (Ha.next,0))/\tm.look 4= .ptr (some (h2.next,0))/\tm.look 5= .int .i64 (k:Int)/\tm.look 30= .agg ps/\tm.look 31= .int .i64 (k:Int)/\tm.look 37=v/\tm.look 38= .int .i64 (l.length:Int)/\tm.look 39= .int .i64 (i:Int))/\i<=l.length/\Ext Hc h'/\(∀c,P c->h'.get c=K.get c)/\K.next<=h'.next/\TabR h' Hc.next tb P ((lists.take k).flatten++l.take i)/\Tt.Clean ((lists.take k).flatten) l i) (λi=>l.length-i) ?_ (s:=0)
   ⟨⟨rfl,rfl,rfl,rfl,rfl,rfl,rfl,rfl,rfl⟩,Nat.zero_le _,X,PX,nX,by rw[List.take_zero,List.append_nil];exact tr,λm a hm=>by omega⟩
  clear X PX nX tr Lv sv;rintro i tm h' ⟨⟨w2,w3,w4,w5,w30,w31,w37,w38,w39⟩,hi,X,PX,nX,tr,hci⟩;obtain⟨T,rfl⟩:=Tm.t9 w2 w3 w4 w5 w30 w31 w37 w38 w39;clear w2 w3 w4 w5 w30 w31 w37 w38 w39;obtain⟨Lv,sv⟩:=hv h' X PX nX;rw[<-hl]at sv;by_cases c2:i<l.length
  ·repeat refine W.g ?_
   refine W.iz λi_ o_ L_=> ?_;repeat refine W.g ?_
   refine W.call rfl rfl rfl (add_w X (rhc.ext X) tr (okl _ (List.getElem_mem c2)) (hlen.2 i hi) (λh5 X5 P5 hin _=> ?_) λh5 n5 X5 nh5 P5 hni tr5=> ?_)
   ·have hw:w.wrong=⟨6,(k:Int),(i:Int)⟩:=by
      unfold WorldD.wrong;rw[<-hlists,dups_some (L:=lists) (seen:=[]) (k:=0) (n:=k) (l:=l) (j:=i) (a:=l[i]) (λn' l' hn hl'=>by simpa using hcl n' l' hn hl') hlk (by simpa using hci) (List.getElem?_eq_getElem c2) (by simpa using hin)];simp
    rw[hw]at q;repeat refine W.g ?_
    refine W.stn (vs:=[.int .i64 6,.int .i64 (k:Int),.int .i64 (i:Int)]) (cs':=[.int .i64 6,.int .i64 (k:Int),.int .i64 (i:Int)]) rfl rfl rfl rfl rfl rfl ((X5.old h.next (by omega)).trans g2c) rfl λM nM gM kM=> ?_;have xn5:=X5.next;have XM:Ext h M:=Ext.store (Xhc.trans X5) nM kM (Nat.le_refl _) (by omega);repeat refine W.g ?_
    refine BodyQ.cell1 rfl rfl gM rfl rfl ?_;exact q _ XM
   ·repeat refine W.g ?_
    have hcs:Tt.Clean ((lists.take k).flatten) l (i+1):=λm a hm ha=>by
     by_cases e:m=i
     ·subst e
      rw[List.getElem?_eq_getElem c2]at ha;cases ha;exact hni
     ·exact hci m a (by omega) ha
    exact⟨i+1,lessN c2,⟨rfl,rfl,rfl,rfl,rfl,rfl,rfl,rfl,rfl⟩,c2,X5,λc hc=>(P5 c hc).trans (PX c hc),Nat.le_trans nX nh5,by rw[List.take_add_one,List.getElem?_eq_getElem c2,<-List.append_assoc];exact tr5,hcs⟩
  ·repeat refine W.g ?_
   have hie:i=l.length:=by omega
   rw[hie,List.take_length]at tr;refine⟨k+1,by show 7-(k+1)<7-k;omega,⟨rfl,rfl,rfl,rfl,rfl⟩,c1,X,PX,nX,?_,λn l' hn hl'=> ?_⟩
   ·rw[List.take_add_one,hlk,List.flatten_append]
    simpa using tr
   ·by_cases e:n=k
    ·subst e
     rw[hlk]at hl';cases hl';rw[<-hie];exact hci
    ·exact hcl n l' (by omega) hl'
 ·repeat refine W.g ?_
  have hk7:k=7:=by omega
  have hd:dups [] w.names.lists 0=none:=dups_no λn l hl=>by
   rw[<-hlists]at hl ⊢
   have hn:n<7:=by
    have:=(List.getElem?_eq_some_iff.1 hl).1;rw[hlists]at this;exact this
   simpa using hcl n l (by omega) hl
  obtain⟨fs,hfs⟩:∃fs:List CV,fs=[.fn 109 [.ptr (some (Ha.next,0))] [],.fn 109 [.ptr (some (Ha.next,0))] [],.fn 110 [.ptr (some (Ha.next,0))] [],.fn 111 [.ptr (some (Ha.next,0))] [],.fn 112 [.ptr (some (Ha.next,0))] [],.fn 113 [.ptr (some (Ha.next,0))] [],.fn 114 [.ptr (some (Ha.next,0))] []]:=⟨_,rfl⟩
  have famF:∀n,n<7->∃f le,nth fs n=some f/\w.errs[n]? =some le/\le.length=(lists.getD n []).length/\∀(J:Heap) (T:Tm) (Q':R->Prop) (i:Nat) (x:Int),Ext Hc J->le[i]? =some x->(∀J',Ext J J'->Q' (.val (.int .i64 x) J'))->W E1 (.call f [.int .i64 (i:Int)]) T J Q':=by
   intro n hn;have ck:∀J,Ext Hc J->Chk J Ha.next w (.ptr (some (tb,0))):=λJ XJ=>⟨wb,_,Lcc.ext XJ,Lw.ext (Xhc.trans XJ),Rp.ext (Xhc.trans XJ) r0⟩;have frc:=Xhc.fr fr;rw[hfs,hlists];rcases n with _|_|_|_|_|_|_|n
   ·exact⟨_,_,rfl,rfl,rfl,λJ T Q' i x XJ hx q'=>by simp at hx⟩
   ·exact⟨_,_,rfl,rfl,by rw[List.length_map];rfl,λJ T Q' i x XJ hx q'=>by
     rw[List.getElem?_map]at hx;cases hy:w.names.stops[i]? with
     |none=>rw[hy]at hx;cases hx
     |some y=>rw[hy]at hx;cases hx;exact fineChk_w _ _ (q' J (Ext.refl J))⟩
   ·exact⟨_,_,rfl,rfl,by rw[List.length_map];exact ln.1.symm,λJ T Q' i x XJ hx q'=>by
     have hi:i<w.paths.length:=by have:=(List.getElem?_eq_some_iff.1 hx).1;rwa[List.length_map]at this
     rw[List.getElem?_map,List.getElem?_eq_getElem hi]at hx;cases hx;exact pathChk_w (ck J XJ) i hi q'⟩
   ·exact⟨_,_,rfl,rfl,by rw[List.length_map];exact ln.2.1.symm,λJ T Q' i x XJ hx q'=>by
     have hi:i<w.doors.length:=by have:=(List.getElem?_eq_some_iff.1 hx).1;rwa[List.length_map]at this
     rw[List.getElem?_map,List.getElem?_eq_getElem hi]at hx;cases hx;exact doorChk_w (ck J XJ) (XJ.fr frc) i hi q'⟩
   ·exact⟨_,_,rfl,rfl,by rw[List.length_map];exact ln.2.2.1.symm,λJ T Q' i x XJ hx q'=>by
     have hi:i<w.routes.length:=by have:=(List.getElem?_eq_some_iff.1 hx).1;rwa[List.length_map]at this
     rw[List.getElem?_map,List.getElem?_eq_getElem hi]at hx;cases hx;exact routeChk_w (ck J XJ) (XJ.fr frc) i hi (rt _ (List.getElem_mem hi)).1 (rt _ (List.getElem_mem hi)).2 q'⟩
   ·exact⟨_,_,rfl,rfl,by rw[List.length_map];exact ln.2.2.2.1.symm,λJ T Q' i x XJ hx q'=>by
     have hi:i<w.trips.length:=by have:=(List.getElem?_eq_some_iff.1 hx).1;rwa[List.length_map]at this
     rw[List.getElem?_map,List.getElem?_eq_getElem hi]at hx;cases hx;exact tripChk_w (ck J XJ) i hi q'⟩
   ·exact⟨_,_,rfl,rfl,by rw[List.length_map];exact ln.2.2.2.2.symm,λJ T Q' i x XJ hx q'=>by
     have hi:i<w.hazards.length:=by have:=(List.getElem?_eq_some_iff.1 hx).1;rwa[List.length_map]at this
     rw[List.getElem?_map,List.getElem?_eq_getElem hi]at hx;cases hx;exact hazChk_w (ck J XJ) (XJ.fr frc) i hi q'⟩
   ·omega
  refine W.k4 2 4 76 77 λT=> ?_;have g0:Hc.get h.next=some (.cells [.int .i64 0,.int .i64 0,.int .i64 0] false):=g2c
  refine W.loop (σ:=Nat) (λk tm h'=>(tm.look 2= .ptr (some (h.next,0))/\tm.look 4= .ptr (some (h2.next,0))/\tm.look 76= .agg fs/\tm.look 77= .int .i64 (k:Int))/\k<=7/\Ext Hc h'/\(∀c,P c->h'.get c=K.get c)/\K.next<=h'.next/\∀(n:Nat) (l:List Int),n<k->w.errs[n]? =some l->∀x∈l,x=0) (λk=>7-k) ?_ (s:=0)
   ⟨⟨rfl,rfl,by rw[hfs];rfl,rfl⟩,Nat.zero_le _,X,PX,nX,λn l hn=>by omega⟩
  clear X PX nX tr hcl hk c1 hk7;rintro k tm h' ⟨⟨w2,w4,w76,w77⟩,hk,X,PX,nX,hcl⟩;obtain⟨T,rfl⟩:=Tm.t4 w2 w4 w76 w77;clear w2 w4 w76 w77;by_cases c1:k<7
  ·obtain⟨p,o,v,hpk,hv⟩:=fam k c1
   obtain⟨f,le,hfk,hle,hln,hf⟩:=famF k c1;repeat refine W.g ?_
   refine W.ixv rfl rfl rfl rfl rfl rfl rfl rfl rfl (place_of (j:=k) rfl c1) hfk ?_;repeat refine W.g ?_
   refine W.ixp (j:=k) rfl rfl rfl rfl rfl rfl rfl (place_of (j:=k) rfl c1) ?_;obtain⟨Lv,sv⟩:=hv h' X PX nX;have Lps:LocE h' h2.next 0 ps:=⟨_,_,(PX _ pa).trans ga4,by omega,by rw[cut_eq,if_pos (by omega)];simp⟩;refine W.ldk (k:=k) Lps (Ext.refl _) rfl rfl rfl rfl rfl rfl (by first|exact hpk|(rw[<-nth_eq];exact hpk)) rfl ?_;repeat refine W.g ?_
   refine W.loop (σ:=Nat) (λi tm h'=>(tm.look 2= .ptr (some (h.next,0))/\tm.look 4= .ptr (some (h2.next,0))/\tm.look 11= .int .i64 (k:Int)/\tm.look 12=f/\tm.look 76= .agg fs/\tm.look 77= .int .i64 (k:Int)/\tm.look 86= .int .i64 ((lists.getD k []).length:Int)/\tm.look 87= .int .i64 (i:Int))/\i<=(lists.getD k []).length/\Ext Hc h'/\(∀c,P c->h'.get c=K.get c)/\K.next<=h'.next/\∀(m:Nat) (b:Int),m<i->le[m]? =some b->b=0) (λi=>(lists.getD k []).length-i) ?_ (s:=0)
    ⟨⟨rfl,rfl,rfl,rfl,rfl,rfl,rfl,rfl⟩,Nat.zero_le _,X,PX,nX,λm b hm=>by omega⟩
   have hlm:(lists.getD k []).length<4096:=by
    have hlk:lists[k]? =some (lists.getD k []):=by rw[hlists];rcases k with _|_|_|_|_|_|_|k<;>first|rfl|omega
    have hm:=len_le_flatten (List.mem_of_getElem? hlk);rw[<-hlists]at few;omega
   clear X PX nX Lv sv Lps;rintro i tm h' ⟨⟨w2,w4,w11,w12,w76,w77,w86,w87⟩,hi,X,PX,nX,hci⟩;obtain⟨T,rfl⟩:=Tm.t8 w2 w4 w11 w12 w76 w77 w86 w87;clear w2 w4 w11 w12 w76 w77 w86 w87;obtain⟨n,hnn⟩:∃n,n=(lists.getD k []).length:=⟨_,rfl⟩;rw[<-hnn]at hi hlm hln ⊢;by_cases c2:i<n
   ·obtain⟨x,hx⟩:∃x,le[i]? =some x:=⟨_,List.getElem?_eq_getElem (by omega)⟩
    repeat refine W.g ?_
    refine W.call rfl rfl rfl (hf h' _ _ i x X hx λJ X5=> ?_);by_cases c3:x=0
    ·repeat refine W.g ?_
     exact⟨i+1,lessN c2,⟨rfl,rfl,rfl,rfl,rfl,rfl,rfl,rfl⟩,c2,X.trans X5,λc hc=>(X5.old c (Nat.lt_of_lt_of_le (pl c hc) nX)).trans (PX c hc),Nat.le_trans nX X5.next,λm b hm hb=>by
      by_cases e:m=i
      ·rw[e,hx]at hb;cases hb;exact c3
      ·exact hci m b (by omega) hb⟩
    ·have hw:w.wrong=⟨x,(k:Int),(i:Int)⟩:=wrong_err hd hcl hle hci hx c3
     rw[hw]at q;repeat refine W.g ?_
     refine W.stn (vs:=[.int .i64 x,.int .i64 (k:Int),.int .i64 (i:Int)]) (cs':=[.int .i64 x,.int .i64 (k:Int),.int .i64 (i:Int)]) rfl rfl rfl rfl rfl rfl (((X.trans X5).old h.next (by omega)).trans g0) rfl λM nM gM kM=> ?_;have xn5:=(X.trans X5).next;have XM:Ext h M:=Ext.store (Xhc.trans (X.trans X5)) nM kM (Nat.le_refl _) (by omega);repeat refine W.g ?_
     refine BodyQ.cell1 rfl rfl gM rfl rfl ?_;exact q _ XM
   ·repeat refine W.g ?_
    exact⟨k+1,by show 7-(k+1)<7-k;omega,⟨rfl,rfl,rfl,rfl⟩,c1,X,PX,nX,λm l hm hl x hx=>by
     by_cases e:m=k
     ·subst e
      rw[hle]at hl;cases hl;obtain⟨j,hj,rfl⟩:=List.getElem_of_mem hx;exact hci j _ (by omega) (List.getElem?_eq_getElem hj)
     ·exact hcl m l (by omega) hl x hx⟩
  ·repeat refine W.g ?_
   have hw:w.wrong=Wrong0:=wrong_none hd λn l hl=>hcl n l (by
    have:=(List.getElem?_eq_some_iff.1 hl).1;have h7:w.errs.length=7:=rfl;omega) hl
   rw[hw]at q;have g9:h'.get h.next=some (.cells [.int .i64 0,.int .i64 0,.int .i64 0] false):=(X.old h.next (by omega)).trans g0;have hnH:=Xhc.next;refine W.stn (vs:=[.int .i64 0,.int .i64 0,.int .i64 0]) (cs':=[.int .i64 0,.int .i64 0,.int .i64 0]) rfl rfl rfl rfl rfl rfl g9 rfl λM nM gM kM=> ?_;repeat refine W.g ?_
   refine BodyQ.cell1 rfl rfl gM rfl rfl ?_;exact q _ (Ext.store (Xhc.trans X) nM kM (Nat.le_refl _) (by have:=X.next;omega))
end
end Go.Proofs.YtmgpjfnlciapkaaGreatDoor

namespace Go.Proofs.YtmgpjfnlciapkaaGreatDoor
open Go Go.CM Go.CM.Tt
noncomputable section
set_option maxHeartbeats 16000000
theorem make_w0 {h:Heap} {tm:Tm} {Q:R->Prop} {cs:List CV} {x:SheetD} (r:Rp.R h cs x) (rh:RH h) (fr:Fresh h) (sm:x.slim) (q:∀h' c1,Ext h h'->(∀M:Heap,h'.next<=M.next->(∀k,h.next<=k->k<h'.next->M.get k=h'.get k)->Rp.R M c1 x.make.1)->Q (.val (.tup [.agg c1,.agg x.make.2.enc]) h')):W E1 (.call (.fn 8 [] []) [.agg cs]) tm h Q:=by
 have r0:=r;obtain⟨v1,v2,v3,v4,v5,v6,rfl,s1,s2,s3,s4,s5,s6⟩:=r;refine W.fn (s:=fnOf Tryz.f8) rfl rfl rfl rfl ?_;repeat (refine W.seq ?_)
 refine W.region ?_;refine W.box rfl rfl rfl λH1 X1 n1 g1 L1=> ?_;refine W.al rfl rfl rfl λH2 X2 n2 g2 L2=> ?_;refine W.al rfl rfl rfl λH3 X3 n3 g3 L3=> ?_;clear L2 L3;have g2:H3.get H1.next=some (.cells [.int .i64 0,.slice none 0 0 0,.slice none 0 0 0,.slice none 0 0 0,.slice none 0 0 0,.slice none 0 0 0,.slice none 0 0 0,.slice none 0 0 0,.slice none 0 0 0,.slice none 0 0 0,.slice none 0 0 0,.slice none 0 0 0] false):=(X3.old _ (by omega)).trans g2;have g3:H3.get H2.next=some (.cells [.int .i64 0,.int .i64 0,.int .i64 0] false):=g3;have X0:Ext h H3:=(X1.trans X2).trans X3;have L1:=(L1.ext X2).ext X3;have l1:H1.next<H3.next:=by omega
 have l2:H2.next<H3.next:=by omega
 have l0:h.next<H1.next:=by omega
 have l12:H1.next<H2.next:=by omega
 clear g1;repeat refine W.g ?_
 refine W.call rfl rfl rfl (sheetCheck_w (Rp.ext X0 r0) (rh.ext X0) sm λH4 X4=> ?_);refine W.k4 1 2 3 8 λT=> ?_;have L1:=L1.ext X4;have g2:=(X4.old _ l1).trans g2;have g3:=(X4.old _ l2).trans g3;have Y4:=X0.trans X4;have nx4:=X4.next;by_cases c:x.err=0
 ·have ok:x.Ok:=SheetD.err_zero.1 c
  repeat refine W.g ?_
  refine W.call rfl rfl rfl (numbered_w (Rp.ext Y4 r0) (Y4.fr fr) ok.1 sm λH5 e X5 r50=> ?_);have r5:=r50 H5 (Nat.le_refl _) λ_ _ _=>rfl;have r51:=r5;obtain⟨u1,u2,u3,u4,u5,u6,u7,u8,u9,u10,u11,rfl,t1,t2,t3,t4,t5,t6,t7,t8,t9,t10,t11⟩:=r5;refine W.k4 1 2 3 15 λT=> ?_;have nx5:=X5.next;repeat (first|refine W.g ?_|refine W.m λh_ X_ n_ g_ L_=> ?_)
  have Y5:Ext h h_:=(Y4.trans X5).trans X_;have nx6:=X_.next;refine W.call rfl rfl rfl (wrong_w (rh.ext Y5) (Y5.fr fr) L_ (Rp.ext X_ r51) ok.numNames ok.numFew x.numLens ok.numRoutes λH6 X6=> ?_);have L5:=L_.ext X6;have nx7:=X6.next;have g2:=(X6.old _ (by omega)).trans ((X_.old _ (by omega)).trans ((X5.old _ (by omega)).trans g2));have g3:=(X6.old _ (by omega)).trans ((X_.old _ (by omega)).trans ((X5.old _ (by omega)).trans g3));have r6:=Rp.ext X6 (Rp.ext X_ r51);have Y6:=Y5.trans X6;have Z6:=X_.trans X6;have b5:H4.next<=H5.next:=nx5;refine W.k5 1 2 3 5 16 λT=> ?_;clear g_ L_ X_;repeat (first|refine W.g ?_|refine W.m λh_ X_ n_ g_ L_=> ?_)
  have Y7:Ext h h_:=Y6.trans X_;have Z5:Ext H5 h_:=Z6.trans X_;have L5:=L5.ext X_;have r7:=Rp.ext X_ r6;have g2:=(X_.old _ (by omega)).trans g2;have g3:=(X_.old _ (by omega)).trans g3;have lb1:H1.next<h_.next:=by omega
  have lb2:H2.next<h_.next:=by omega
  by_cases c2:x.num.wrong.err=0
  ·have em:x.make=(x.num,Wrong0):=by unfold SheetD.make;rw[if_pos c,if_pos c2]
   rw[em]at q;repeat refine W.g ?_
   refine W.stn (vs:=[.int .i64 x.num.hz,u1,u2,u3,u4,u5,u6,u7,u8,u9,u10,u11]) (cs':=[.int .i64 x.num.hz,u1,u2,u3,u4,u5,u6,u7,u8,u9,u10,u11]) rfl rfl rfl rfl rfl rfl g2 rfl λM1 m1 gM1 kM1=> ?_;refine W.stn (vs:=[.int .i64 0,.int .i64 0,.int .i64 0]) (cs':=[.int .i64 0,.int .i64 0,.int .i64 0]) rfl rfl rfl rfl rfl rfl ((kM1 H2.next (by omega)).trans g3) rfl λM2 m2 gM2 kM2=> ?_;repeat refine W.g ?_
   refine BodyQ.cell2 rfl rfl rfl ((kM2 H1.next (by omega)).trans gM1) gM2 rfl rfl rfl rfl ?_;refine q M2 _ (Ext.store (Ext.store Y7 m1 kM1 (by omega) lb1) m2 kM2 (by omega) (by omega)) (λM hMn hM=>r50 M (by have:=Z5.next;omega) λk a b=> ?_);have:=Z5.next;rw[hM k (by have:=X4.next;have:=X0.next;omega) (by omega),kM2 k (by omega),kM1 k (by omega)];exact Z5.old k b
  ·have em:x.make=(WorldD.none,x.num.wrong):=by unfold SheetD.make;rw[if_pos c,if_neg c2]
   rw[em]at q;repeat refine W.g ?_
   have dv:DV (λb=>b=H6.next) h_ [] [] []:=DV.start (λb hb=>by rw[hb];omega);try refine W.dv ?_
   refine W.ldVw dv rfl L_ rfl rfl rfl rfl rfl rfl λq1 G1 dv1 s1 L1'=> ?_;try refine W.dv ?_
   refine W.stV (vs:=[.int .i64 0,.slice none 0 0 0,.slice none 0 0 0,.slice none 0 0 0,.slice none 0 0 0,.slice none 0 0 0,.slice none 0 0 0,.slice none 0 0 0,.slice none 0 0 0,.slice none 0 0 0,.slice none 0 0 0,.slice none 0 0 0]) (cs':=[.int .i64 0,.slice none 0 0 0,.slice none 0 0 0,.slice none 0 0 0,.slice none 0 0 0,.slice none 0 0 0,.slice none 0 0 0,.slice none 0 0 0,.slice none 0 0 0,.slice none 0 0 0,.slice none 0 0 0,.slice none 0 0 0]) dv1 (by show ¬H1.next=H6.next;omega) rfl rfl rfl rfl rfl rfl rfl ((s1.get _).trans g2) rfl λq2 G2 hr2 s2=> ?_;try refine W.dv ?_
   have n1':=s1.next;have n2':G2.next=G1.next:=s2.next;have k2:∀k,k≠H1.next->G2.get k=G1.get k:=λk hk=>by rw[s2.get,Heap.get_put,if_neg (Ne.symm hk)]
   have gG2:G2.get H1.next=some (.cells [.int .i64 0,.slice none 0 0 0,.slice none 0 0 0,.slice none 0 0 0,.slice none 0 0 0,.slice none 0 0 0,.slice none 0 0 0,.slice none 0 0 0,.slice none 0 0 0,.slice none 0 0 0,.slice none 0 0 0,.slice none 0 0 0] false):=by rw[s2.get,put_same]
   refine W.dst (vs:=[.int .i64 x.num.wrong.err,.int .i64 x.num.wrong.kind,.int .i64 x.num.wrong.pos]) (cs':=[.int .i64 x.num.wrong.err,.int .i64 x.num.wrong.kind,.int .i64 x.num.wrong.pos]) hr2 rfl rfl rfl rfl rfl rfl rfl ((k2 H2.next (by omega)).trans ((s1.get _).trans g3)) rfl λq3 G3 hr3 s3=> ?_;try refine W.dv ?_
   have n3':G3.next=G2.next:=s3.next;have k3:∀k,k≠H2.next->G3.get k=G2.get k:=λk hk=>by rw[s3.get,Heap.get_put,if_neg (Ne.symm hk)]
   have gG3:G3.get H2.next=some (.cells [.int .i64 x.num.wrong.err,.int .i64 x.num.wrong.kind,.int .i64 x.num.wrong.pos] false):=by rw[s3.get,put_same]
   repeat refine W.g ?_
   refine BodyQ.cell2 rfl rfl rfl ((k3 H1.next (by omega)).trans gG2) gG3 rfl rfl rfl rfl ?_;exact q G3 _ (Ext.store (Ext.store (Y7.trans s1.ext) n2' k2 (by omega) (by omega)) n3' k3 (by omega) (by omega)) λ_ _ _=>⟨_,_,_,_,_,_,_,_,_,_,_,rfl,Sl.nil,Sl.nil,Sl.nil,Sl.nil,Sl.nil,Sl.nil,Sl.nil,Sl.nil,Sl.nil,Sl.nil,Sl.nil⟩
 ·have em:x.make=(WorldD.none,⟨x.err,0,0⟩):=by unfold SheetD.make;rw[if_neg c]
  rw[em]at q;repeat refine W.g ?_
  refine W.stn (vs:=[.int .i64 0,.slice none 0 0 0,.slice none 0 0 0,.slice none 0 0 0,.slice none 0 0 0,.slice none 0 0 0,.slice none 0 0 0,.slice none 0 0 0,.slice none 0 0 0,.slice none 0 0 0,.slice none 0 0 0,.slice none 0 0 0]) (cs':=[.int .i64 0,.slice none 0 0 0,.slice none 0 0 0,.slice none 0 0 0,.slice none 0 0 0,.slice none 0 0 0,.slice none 0 0 0,.slice none 0 0 0,.slice none 0 0 0,.slice none 0 0 0,.slice none 0 0 0,.slice none 0 0 0]) rfl rfl rfl rfl rfl rfl g2 rfl λM1 m1 gM1 kM1=> ?_;refine W.stn (vs:=[.int .i64 x.err,.int .i64 0,.int .i64 0]) (cs':=[.int .i64 x.err,.int .i64 0,.int .i64 0]) rfl rfl rfl rfl rfl rfl ((kM1 H2.next (by omega)).trans g3) rfl λM2 m2 gM2 kM2=> ?_;repeat refine W.g ?_
  refine BodyQ.cell2 rfl rfl rfl ((kM2 H1.next (by omega)).trans gM1) gM2 rfl rfl rfl rfl ?_;exact q M2 _ (Ext.store (Ext.store Y4 m1 kM1 (by omega) (by omega)) m2 kM2 (by omega) (by omega)) λ_ _ _=>⟨_,_,_,_,_,_,_,_,_,_,_,rfl,Sl.nil,Sl.nil,Sl.nil,Sl.nil,Sl.nil,Sl.nil,Sl.nil,Sl.nil,Sl.nil,Sl.nil,Sl.nil⟩
theorem make_w {h:Heap} {tm:Tm} {Q:R->Prop} {cs:List CV} {x:SheetD} (r:Rp.R h cs x) (rh:RH h) (fr:Fresh h) (sm:x.slim) (q:∀h' c1,Ext h h'->Rp.R h' c1 x.make.1->Q (.val (.tup [.agg c1,.agg x.make.2.enc]) h')):W E1 (.call (.fn 8 [] []) [.agg cs]) tm h Q:=
 make_w0 r rh fr sm λh' c1 X s=>q h' c1 X (s h' (Nat.le_refl _) λ_ _ _=>rfl)
end
end Go.Proofs.YtmgpjfnlciapkaaGreatDoor

namespace Go.Proofs.YtmgpjfnlciapkaaGreatDoor
open Go Go.CM Go.CM.Tt
noncomputable section
set_option maxHeartbeats 16000000
set_option maxRecDepth 100000
theorem BodyQ.cellT {E:Env} {tm:Tm} {h:Heap} {Q:R->Prop} {rs:List ResultVar} {a b i off:Nat} {t:TypeId} {s:TyS} {cs:List CV} {ro:Bool} {v v2:CV} (hrs:rs=[.cell a t,.tmp b]) (ha:tm.look a= .ptr (some (i,off))) (hb:tm.look b=v2) (hg:h.get i=some (.cells cs ro)) (hs:E.ty t=some s) (hp:CM.part cs off s.size s.agg=some v)
  (q:Q (.val (.tup [v,v2]) h)):BodyQ E rs Q (.code .ret tm h):=by
 show Q (kBody E rs (.code .ret tm h))
 have e:resultVals E h tm rs=some [v,v2]:=by
  subst hrs
  have hl:CM.load E h t i off=some v:=by
   unfold CM.load loadB;simp only[hg,hs,hp]
  have h3:tm.get a=some (.ptr (some (i,off))):=by
   have:tm.get a=some (tm.look a):=rfl;rw[this,ha]
  have h4:tm.get b=some v2:=by
   have:tm.get b=some (tm.look b):=rfl;rw[this,hb]
  unfold resultVals;simp only[h3,hl];unfold resultVals;simp only[h4,resultVals,Option.getD_some]
 unfold kBody;simp only[e];exact q
theorem check_w {h:Heap} {tm:Tm} {Q:R->Prop} {cs:List CV} {w:WorldD} (r:Rp.R h cs w) (rh:RH h) (fr:Fresh h) (sm:w.small) (sl:w.whole->w.told.slim) (q:∀h',Ext h h'->Q (.val (.agg w.check.enc) h')):W E1 (.call (.fn 19 [] []) [.agg cs]) tm h Q:=by
 have r0:=r;obtain⟨v1,v2,v3,v4,v5,v6,v7,v8,v9,v10,v11,rfl,_⟩:=r;refine W.fn (s:=fnOf Tryz.f19) rfl rfl rfl rfl ?_;repeat (refine W.seq ?_)
 refine W.region ?_;refine W.box rfl rfl rfl λHa Xa na ga La=> ?_;refine W.al rfl rfl rfl λH0 X0 n0 g0 L0=> ?_;clear L0;have g0:H0.get Ha.next=some (.cells [.int .i64 0,.int .i64 0,.int .i64 0] false):=g0;have L1:=La.ext X0;have X1:=Xa.trans X0;have nX1:=X1.next;clear La;repeat refine W.g ?_
 refine W.call rfl rfl rfl (whole_w (Rp.ext X1 r0) sm λH2 b X2 hb=> ?_);have L1:=L1.ext X2;have g0:=(X2.old _ (by omega)).trans g0;have Y2:=X1.trans X2;have nX2:=X2.next;refine W.k3 1 2 6 λT=> ?_;cases b
 case false=>
  have e:w.check=⟨2,0,0⟩:=by unfold WorldD.check;rw[if_neg (λh=>by cases hb.2 h)]
  rw[e]at q;repeat refine W.g ?_
  refine W.stn (vs:=[.int .i64 2,.int .i64 0,.int .i64 0]) (cs':=[.int .i64 2,.int .i64 0,.int .i64 0]) rfl rfl rfl rfl rfl rfl g0 rfl λM nM gM kM=> ?_;repeat refine W.g ?_
  refine BodyQ.cell1 rfl rfl gM rfl rfl ?_;exact q M (Ext.store Y2 nM kM (by omega) (by omega))
 have hw:=hb.1 rfl;have e:w.check=w.told.make.2:=by unfold WorldD.check;rw[if_pos hw]
 rw[e]at q;repeat refine W.g ?_
 refine W.call rfl rfl rfl (told_w (Rp.ext Y2 r0) (Y2.fr fr) hw sm λH3 e3 X3 r3=> ?_);have Y3:=Y2.trans X3;have nX3:=X3.next;have g0:=(X3.old _ (by omega)).trans g0;have r30:=r3;obtain⟨x1,x2,x3,x4,x5,x6,rfl,_⟩:=r3;refine W.k3 1 2 11 λT=> ?_;refine W.call rfl rfl rfl (make_w r30 (rh.ext Y3) (Y3.fr fr) (sl hw) λH4 c4 X4 r4=> ?_);have Y4:=Y3.trans X4;have nX4:=X4.next;have g0:=(X4.old _ (by omega)).trans g0;obtain⟨u1,u2,u3,u4,u5,u6,u7,u8,u9,u10,u11,rfl,_⟩:=r4;clear L1;refine W.k3 1 2 12 λT=> ?_;repeat (first|refine W.g ?_|refine W.m λh_ X_ n_ g_ L_=> ?_)
 rename_i M2 j2 n2 g2 L2;clear L2 L_;have g2:=(X_.old H4.next (by omega)).trans g2;have g0:=((j2.trans X_).old _ (by omega)).trans g0;refine W.stn (vs:=[.int .i64 w.told.make.1.hz,u1,u2,u3,u4,u5,u6,u7,u8,u9,u10,u11]) (cs':=[.int .i64 w.told.make.1.hz,u1,u2,u3,u4,u5,u6,u7,u8,u9,u10,u11]) rfl rfl rfl rfl rfl rfl g2 rfl λM4 m4 h4 k4=> ?_;refine W.stn (vs:=w.told.make.2.enc) (cs':=w.told.make.2.enc) rfl rfl rfl rfl rfl rfl ((k4 M2.next (by omega)).trans g_) rfl λM5 m5 h5 k5=> ?_;have J5:Ext H4 M5:=Ext.store (Ext.store (j2.trans X_) m4 k4 (by omega) (by omega)) m5 k5 (by omega) (by omega);have Lf:LocE M5 M2.next 0 w.told.make.2.enc:=⟨_,_,h5,by omega,rfl⟩;have g0:=(k5 Ha.next (by omega)).trans ((k4 Ha.next (by omega)).trans g0);clear X_ g2 g_ h4 k4 k5 j2;refine W.k3 1 2 4 λT=> ?_;repeat refine W.g ?_
 refine W.stn (vs:=w.told.make.2.enc) (cs':=w.told.make.2.enc) rfl rfl rfl rfl rfl rfl g0 rfl λM nM gM kM=> ?_;repeat refine W.g ?_
 refine BodyQ.cell1 rfl rfl gM rfl rfl ?_;exact q M (Ext.store (Y4.trans J5) nM kM (by omega) (by omega))
theorem wsheet_w {h:Heap} {tm:Tm} {Q:R->Prop} {cs:List CV} {w:WorldD} (r:Rp.R h cs w) (rh:RH h) (fr:Fresh h) (sm:w.small) (sl:w.whole->w.told.slim) (q:∀h' c1,Ext h h'->Rp.R h' c1 w.sheet.1->Q (.val (.tup [.agg c1,.int .i64 w.sheet.2]) h')):W E1 (.call (.fn 15 [] []) [.agg cs]) tm h Q:=by
 have r0:=r;obtain⟨v1,v2,v3,v4,v5,v6,v7,v8,v9,v10,v11,rfl,_⟩:=r;refine W.fn (s:=fnOf Tryz.f15) rfl rfl rfl rfl ?_;repeat (refine W.seq ?_)
 refine W.region ?_;refine W.box rfl rfl rfl λHa Xa na ga La=> ?_;refine W.al rfl rfl rfl λH0 X0 n0 g0 L0=> ?_;clear L0;have g0:H0.get Ha.next=some (.cells [.int .i64 0,.slice none 0 0 0,.slice none 0 0 0,.slice none 0 0 0,.slice none 0 0 0,.slice none 0 0 0,.slice none 0 0 0] false):=g0;have L1:=La.ext X0;have X1:=Xa.trans X0;have nX1:=X1.next;clear La;repeat refine W.g ?_
 refine W.call rfl rfl rfl (check_w (Rp.ext X1 r0) (rh.ext X1) (X1.fr fr) sm sl λH2 X2=> ?_);have L1:=L1.ext X2;have g0:=(X2.old _ (by omega)).trans g0;have Y2:=X1.trans X2;have nX2:=X2.next;refine W.k4 1 2 3 6 λT=> ?_;repeat (first|refine W.g ?_|refine W.m λh_ X_ n_ g_ L_=> ?_)
 have Lc:LocE h_ H2.next 0 w.check.enc:=L_;have L1:=L1.ext X_;have g0:=(X_.old _ (by omega)).trans g0;have Y3:Ext h h_:=Y2.trans X_;have nX3:=X_.next;obtain⟨K,hK⟩:∃K,K=h_:=⟨_,rfl⟩;rw[<-hK]at Lc L1 g0 Y3 nX3 ⊢;clear X_ g_ L_;by_cases c:w.check.err=0
 ·have hw:w.whole:=by
    by_cases hw:w.whole
    ·exact hw
    ·exfalso
     unfold WorldD.check at c;rw[if_neg hw]at c;cases c
  have e:w.sheet=(w.told,0):=by unfold WorldD.sheet;rw[if_pos c]
  rw[e]at q;repeat refine W.g ?_
  refine W.call rfl rfl rfl (told_w0 (Rp.ext Y3 r0) (Y3.fr fr) hw sm λH3 e3 X3 r30=> ?_);have nX4:=X3.next;have g0:=(X3.old _ (by omega)).trans g0;have r3:=r30 H3 (Nat.le_refl _) λ_ _ _=>rfl;obtain⟨x1,x2,x3,x4,x5,x6,rfl,_⟩:=r3;refine W.k4 1 2 3 14 λT=> ?_;refine W.stn (vs:=[.int .i64 w.told.hz,x1,x2,x3,x4,x5,x6]) (cs':=[.int .i64 w.told.hz,x1,x2,x3,x4,x5,x6]) rfl rfl rfl rfl rfl rfl g0 rfl λM nM gM kM=> ?_;repeat refine W.g ?_
  refine BodyQ.cellT rfl rfl rfl gM rfl rfl ?_;exact q M _ (Ext.store (Y3.trans X3) nM kM (by omega) (by omega)) (r30 M (by omega) λk h1 h2=>kM k (by omega))
 ·have e:w.sheet=(SheetD.none,w.check.err):=by unfold WorldD.sheet;rw[if_neg c]
  rw[e]at q;repeat refine W.g ?_
  have dv:DV (λb=>b=H2.next) K [] [] []:=DV.start (λb hb=>by rw[hb];obtain⟨_,_,_,hl,_⟩:=Lc;exact hl);try refine W.dv ?_
  refine W.ldV (k:=0) dv rfl Lc rfl rfl rfl rfl rfl rfl rfl λq1 G1 dv1 s1 L1'=> ?_;try refine W.dv ?_
  have n1':=s1.next;refine W.stV (vs:=[.int .i64 0,.slice none 0 0 0,.slice none 0 0 0,.slice none 0 0 0,.slice none 0 0 0,.slice none 0 0 0,.slice none 0 0 0]) (cs':=[.int .i64 0,.slice none 0 0 0,.slice none 0 0 0,.slice none 0 0 0,.slice none 0 0 0,.slice none 0 0 0,.slice none 0 0 0]) dv1 (by intro hc;have hc:Ha.next=H2.next:=hc;omega) rfl rfl rfl rfl rfl rfl rfl ((s1.get _).trans g0) rfl λq2 M hr2 s2=> ?_;try refine W.dv ?_
  have nM:M.next=G1.next:=s2.next;have kM:∀k,k≠Ha.next->M.get k=G1.get k:=λk hk=>by rw[s2.get,Heap.get_put,if_neg (Ne.symm hk)]
  have gM:M.get Ha.next=some (.cells [.int .i64 0,.slice none 0 0 0,.slice none 0 0 0,.slice none 0 0 0,.slice none 0 0 0,.slice none 0 0 0,.slice none 0 0 0] false):=by rw[s2.get,put_same]
  repeat refine W.g ?_
  refine BodyQ.cellT rfl rfl rfl gM rfl rfl ?_;exact q M _ (Ext.store (Y3.trans s1.ext) nM kM (by omega) (by omega)) ⟨_,_,_,_,_,_,rfl,Sl.nil,Sl.nil,Sl.nil,Sl.nil,Sl.nil,Sl.nil⟩
end
end Go.Proofs.YtmgpjfnlciapkaaGreatDoor

noncomputable section
namespace Go.CM
section
variable {E:Env} {tm:Tm} {H h:Heap} {Q:R->Prop} {all rest:List Oper} {o:Oper} {bs:List Bits} {recs:List Rec} {i:Nat} {idx nr:List Nat}
theorem W.dstZ {t:TypeId} {x y:Operand} {id off:Nat} {cs cs' vs:List CV} {s:TyS} (ds:DX H h idx nr recs) (hB:H.next<=id) (hid:(nr.all λj=>bit j ((nth bs i).getD Bits.nil))=true) (hgd:guardOn all tm o=some true) (hop:o.op= .store t x y) (hx:cvOf E.globs tm x= .ptr (some (id,off))) (hy:(cvOf E.globs tm y).cells=some vs)
  (hs:E.ty t=some s) (hl:Nat.beq (len vs) s.size=true) (hg:h.get id=some (.cells cs false)) (hp:setAt cs vs off=some cs')
  (w:∀recs' h',(∀r∈recs',recIdx r∈i::idx)->Same (h.put id (.cells cs' false)) h'->W E (.draw bs all rest (i+1) recs') (putTmp tm o.dst .undef) h' Q):W E (.draw bs all (o::rest) i recs) tm h Q:=by
 have hri:∀r∈recs,recIdx r∈idx:=ds.hri
 have hrr:∀r∈recs,recIdx r∈nr\/∃i fp lo,r= .op i fp false lo lo/\(∀k∈fp,k<H.next)/\∀k∈fp,k<h.next:=λr hr=>by
  have hx:=ds.x.next;rcases(ds.r r hr).1 with⟨i,fp,lo,h1,h2⟩|⟨i,lo,hi,h1,h2,_⟩|⟨i,d,d',h1,h2,_⟩
  ·exact .inr ⟨i,fp,lo,h1,λk hk=>(h2 k hk).1,λk hk=>Nat.lt_of_lt_of_le (h2 k hk).1 hx⟩
  ·left;rw[h1];exact h2
  ·left;rw[h1];exact h2
 have hfp:fpAny E o tm=[id]:=by
  unfold fpAny;rw[hop];show idOf (cvOf E.globs tm x)=[id];rw[hx];rfl
 have hwr:wrOf o.op=true:=by rw[hop];rfl
 have hget:(only h [id]).get id=some (.cells cs false):=by rw[only_get];simpa using hg
 have ho:opAny E o tm (only h (fpAny E o tm))=some (.undef,(only h [id]).put id (.cells cs' false)):=by
  rw[hfp];unfold opAny;rw[hop];show oStore E t (cvOf E.globs tm x) (cvOf E.globs tm y) (only h [id])=_;rw[hx];unfold oStore CM.store storeV;simp only[hs,hy,hl];unfold putCells;simp only[hget,hp,Option.map_some,ofH]
 have hnx:((only h [id]).put id (.cells cs' false)).next=h.next:=only_next _ _
 have hsame:Same (h.put id (.cells cs' false)) (back h ((only h [id]).put id (.cells cs' false)) ([id]++span h.next 0)):=by
  refine⟨by rw[back_next,hnx];rfl,λk=> ?_⟩;rw[back_get,Heap.get_put,Heap.get_put];split
  ·rename_i hk
   have:k=id:=by
    have hk:k∈[id]:=hk;simpa using hk
   subst this;simp
  ·rename_i hk
   have:¬id=k:=by
    intro e;subst e;exact hk (by show id∈[id];simp)
   rw[if_neg this]
 have hall:okPairs ((nth bs i).getD Bits.nil) [id] true (span h.next 0) recs=true:=DV.pairs (B:=λk=>k<H.next) (h:=h) (nr:=nr) (λb hb hm=>by rw[List.mem_singleton]at hm;rw[hm]at hb;have hb:id<H.next:=hb;omega) (λk hk=>(by cases hk)) (λj hj=>List.all_eq_true.1 hid _ hj) hrr
 obtain⟨r,⟨N,e⟩,q⟩:=w (.op i [id] true h.next h.next::recs) _ (λr hm=>by
  rcases List.mem_cons.1 hm with rfl|hm
  ·simp[recIdx]
  ·exact List.mem_cons_of_mem _ (hri r hm)) hsame
 refine⟨r,.step ⟨N,λm hm=> ?_⟩,q⟩
 show(match guardOn all tm o with
  |some true=>dOp E (run E m) bs all rest o i recs tm h
  |some false=>run E m (.draw bs all rest (i+1) recs) (putTmp tm o.dst (.tup [])) h
  |none=> .stop)=r
 rw[hgd];show dOp E (run E m) bs all rest o i recs tm h=r;rw[dOp_any ho,hfp,hwr]
 show(match okPairs ((nth bs i).getD Bits.nil) [id] true (span h.next (((only h [id]).put id (.cells cs' false)).next-h.next)) recs with
  |true=>run E m (.draw bs all rest (i+1) (.op i [id] true h.next ((only h [id]).put id (.cells cs' false)).next::recs)) (putTmp tm o.dst .undef) (back h ((only h [id]).put id (.cells cs' false)) ([id]++span h.next (((only h [id]).put id (.cells cs' false)).next-h.next)))
  |false=> .stop)=r
 rw[hnx,Nat.sub_self,hall];exact e m hm
theorem W.cutB {t:Task} (P:Tm->Heap->Prop) (w:W E t tm h (CutQ P)) (k:∀tm' h',P tm' h'->Q (.code .normal tm' h')):W E t tm h Q:=by
 refine w.mono λr q=> ?_;cases r with
 |code e tm' h'=>
  cases e with
  |normal=>exact k tm' h' q
  |_=>exact q.elim
 |_=>exact q.elim
end
end Go.CM
