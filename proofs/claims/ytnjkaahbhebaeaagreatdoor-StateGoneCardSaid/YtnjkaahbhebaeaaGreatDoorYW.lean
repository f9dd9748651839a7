/- What is wrong with a world that was numbered. No condition but that the table of spaces lies where it does and memory beyond the next number is empty. -/
import Derived.Test.YtnjkaahbhebaeaaGreatDoorXU
import Derived.Test.YtnjkaahbhebaeaaGreatDoorYT
import Derived.Test.YtnjkaahbhebaeaaGreatDoorYA
import Derived.Test.YtnjkaahbhebaeaaGreatDoorXZ
import Derived.Test.YtnjkaahbhebaeaaGreatDoorYR
set_option linter.unusedVariables false
set_option linter.unusedSimpArgs false
set_option maxRecDepth 100000
namespace Go.Proofs.YtnjkaahbhebaeaaGreatDoor
open Go Go.CM Go.CM.Tt
noncomputable section
set_option maxHeartbeats 16000000
theorem wrong_w {h:Heap} {tm:Tm} {Q:R->Prop} {wb:Nat} {cs:List CV} {w:WorldD} (rh:RH h) (fr:Fresh h) (Lw:LocE h wb 0 cs) (r:Rp.R h cs w) (okN:∀l∈w.names.lists,∀s∈l,NameOk s) (few:(w.names.lists.flatten).length<4096) (ln:w.names.paths.length=w.paths.length/\w.names.doors.length=w.doors.length/\w.names.routes.length=w.routes.length/\w.names.trips.length=w.trips.length/\w.names.hazards.length=w.hazards.length) (rt:∀r∈w.routes,r.rides.length+1=r.stops.length/\r.stops.length<=1000)
  (q:∀h',Ext h h'->Q (.val (.agg w.wrong.enc) h')):W E1 (.call (.fn 220 [] []) [.ptr (some (wb,0))]) tm h Q:=by
 have r0:=r;obtain⟨v1,v2,v3,v4,v5,v6,v7,v8,v9,v10,v11,rfl,s1,s2,s3,s4,s5,s6,s7,s8,s9,s10,s11⟩:=r;refine W.fn (s:=fnOf Tryz.f220) rfl rfl rfl rfl ?_;repeat (refine W.seq ?_)
 refine W.region ?_;refine W.al rfl rfl rfl λHa Xa na ga La=> ?_;repeat (first|refine W.g ?_|refine W.m λh_ X_ n_ g_ L_=> ?_)
 have Lc0:LocE h_ Ha.next 0 [.ptr none,.ptr (some (wb,0))]:=L_;have gc0:h_.get Ha.next=some (.cells [.ptr none,.ptr (some (wb,0))] false):=g_;obtain⟨Hb,hHb⟩:∃Hb,Hb=h_:=⟨_,rfl⟩;rw[<-hHb]at Lc0 gc0 X_ n_;have Xb:=Xa.trans X_;refine W.call rfl rfl rfl (new_w λh1 tb X1 tr=> ?_);rw[<-hHb]at X1 tr;refine W.k5 0 2 3 19 20 λT=> ?_;clear hHb L_ g_;repeat refine W.g ?_
 refine W.stn (vs:=[.ptr (some (tb,0))]) (cs':=[.ptr (some (tb,0)),.ptr (some (wb,0))]) rfl rfl rfl rfl rfl rfl ((X1.old _ (by omega)).trans gc0) rfl λG1 nG gG kG=> ?_;obtain⟨Hc,hHc⟩:∃Hc,Hc=Hb.put Ha.next (.cells [.ptr (some (tb,0)),.ptr (some (wb,0))] false):=⟨_,rfl⟩;have nc:Hc.next=Hb.next:=by rw[hHc];rfl
 have gcc:Hc.get Ha.next=some (.cells [.ptr (some (tb,0)),.ptr (some (wb,0))] false):=by rw[hHc,put_same]
 have kc:∀k,k≠Ha.next->Hc.get k=Hb.get k:=λk hk=>by rw[hHc,Heap.get_put,if_neg (Ne.symm hk)]
 have XC:Ext Hc G1:=⟨by rw[nc,nG];exact X1.next,λk hk=>by
  rw[nc]at hk;by_cases e:k=Ha.next
  ·rw[e,gcc];exact gG
  ·rw[kG k e,kc k e];exact X1.old k hk,λf k hk=>by
  have hn:=X1.next;rw[kG k (by omega)];refine X1.fr (λj hj=> ?_) k (by rw[<-nG];exact hk);rw[<-kc j (by omega)];exact f j (by omega)⟩
 have Xhc:Ext h Hc:=⟨by rw[nc];exact Xb.next,λk hk=>(kc k (by omega)).trans (Xb.old k hk),λf k hk=>(kc k (by omega)).trans (Xb.fr f k (by omega))⟩
 have tr1:TabR G1 Hc.next tb (λ_=>False) []:=by
  obtain⟨v,mb,es,clock,gt,lt,O,gm,lm,ek,lo1,lo2,ne1,ne2,ne3,hp⟩:=tr.c;rw[nc];exact⟨v,mb,es,clock,(kG _ (by omega)).trans gt,by omega,O.other (by rw[nG];exact Nat.le_refl _) λk hk _ _=>kG k (by omega),(kG _ (by omega)).trans gm,by omega,ek,lo1,lo2,ne1,ne2,ne3,λ_ h=>h.elim⟩
 have Lcc:LocE Hc Ha.next 0 [.ptr (some (tb,0)),.ptr (some (wb,0))]:=⟨_,_,gcc,by omega,rfl⟩;have g2c:Hc.get h.next=some (.cells [.int .i64 0,.int .i64 0,.int .i64 0] false):=(kc _ (by omega)).trans ((X_.old _ (by omega)).trans ga);have ncb:h.next<Ha.next:=by omega
 clear hHc kc gcc gG kG tr X1 gc0 Lc0 nG Xb X_ ga La;refine W.k3 2 3 0 λT=> ?_;repeat refine W.g ?_
 have Xg:=Xhc.trans XC;refine W.call rfl rfl rfl (kinds_w (Xg.fr fr) λh2 z X2 z1 z2 Lz=> ?_);refine W.k3 2 3 29 λT=> ?_;repeat (first|refine W.g ?_|refine W.m λh_ X_ n_ g_ L_=> ?_)
 have tr2:=tr1.grow (X2.trans X_);obtain⟨P,hP⟩:∃P:Nat->Prop,P=λk=>False\/(G1.next<=k/\k<h_.next):=⟨_,rfl⟩;rw[<-hP]at tr2;obtain⟨ps,hps⟩:∃ps:List CV,ps=[.ptr (some (z,0)),.ptr (some (wb,0+1+0)),.ptr (some (wb,0+1+1)),.ptr (some (wb,0+1+2)),.ptr (some (wb,0+1+3)),.ptr (some (wb,0+1+4)),.ptr (some (wb,0+1+5))]:=⟨_,rfl⟩;have ga4:h_.get h2.next=some (.cells ps false):=by rw[hps];exact g_
 obtain⟨lists,hlists⟩:∃lists,lists=w.names.lists:=⟨_,rfl⟩
 have fam:∀k,k<7->∃p o v,nth ps k=some (.ptr (some (p,o)))/\∀J,Ext Hc J->(∀c,P c->J.get c=h_.get c)->h_.next<=J.next->LocE J p o [v]/\Sl J v (lists.getD k []):=by
  intro k hk;rw[hps,hlists];have Lz2:=Lz.ext X_;rcases k with _|_|_|_|_|_|_|k
  ·exact⟨z,0,_,rfl,λJ XJ PJ nJ=>⟨Lz2.of_get (PJ z (by rw[hP];exact .inr ⟨z1,Nat.lt_of_lt_of_le z2 X_.next⟩)) nJ,Sl.nil⟩⟩
  ·exact⟨wb,0+1+0,v1,rfl,λJ XJ _ _=>⟨LocE.sub (k:=1) (m:=1) (Lw.ext (Xhc.trans XJ)) rfl,s1.ext (Xhc.trans XJ)⟩⟩
  ·exact⟨wb,0+1+1,v2,rfl,λJ XJ _ _=>⟨LocE.sub (k:=2) (m:=1) (Lw.ext (Xhc.trans XJ)) rfl,s2.ext (Xhc.trans XJ)⟩⟩
  ·exact⟨wb,0+1+2,v3,rfl,λJ XJ _ _=>⟨LocE.sub (k:=3) (m:=1) (Lw.ext (Xhc.trans XJ)) rfl,s3.ext (Xhc.trans XJ)⟩⟩
  ·exact⟨wb,0+1+3,v4,rfl,λJ XJ _ _=>⟨LocE.sub (k:=4) (m:=1) (Lw.ext (Xhc.trans XJ)) rfl,s4.ext (Xhc.trans XJ)⟩⟩
  ·exact⟨wb,0+1+4,v5,rfl,λJ XJ _ _=>⟨LocE.sub (k:=5) (m:=1) (Lw.ext (Xhc.trans XJ)) rfl,s5.ext (Xhc.trans XJ)⟩⟩
  ·exact⟨wb,0+1+5,v6,rfl,λJ XJ _ _=>⟨LocE.sub (k:=6) (m:=1) (Lw.ext (Xhc.trans XJ)) rfl,s6.ext (Xhc.trans XJ)⟩⟩
  ·omega
 have XK:Ext Hc h_:=XC.trans (X2.trans X_);have rhc:=rh.ext Xhc;have pa:P h2.next:=by rw[hP];exact .inr ⟨X2.next,by omega⟩
 have pl:∀c,P c->c<h_.next:=λc hc=>by rw[hP]at hc;exact hc.elim (λf=>f.elim) (·.2)
 refine W.k5 2 3 4 30 31 λT=> ?_;obtain⟨K,hK⟩:∃K,K=h_:=⟨_,rfl⟩;rw[<-hK]at ga4 fam XK tr2 n_ pl;rw[<-hK];have nK:h2.next<K.next:=by omega
 clear hK g_ L_ X_ n_ Lz
 refine W.loop (σ:=Nat) (λk tm h'=>(tm.look 2= .ptr (some (h.next,0))/\tm.look 3= .ptr (some (Ha.next,0))/\tm.look 4= .ptr (some (h2.next,0))/\tm.look 30= .agg ps/\tm.look 31= .int .i64 (k:Int))/\k<=7/\Ext Hc h'/\(∀c,P c->h'.get c=K.get c)/\K.next<=h'.next/\TabR h' Hc.next tb P (lists.take k).flatten/\∀n l,n<k->lists[n]? =some l->Tt.Clean ((lists.take n).flatten) l l.length) (λk=>7-k) ?_ (s:=0)
  ⟨⟨rfl,rfl,rfl,by rw[hps];rfl,rfl⟩,Nat.zero_le _,XK,λ_ _=>rfl,Nat.le_refl _,tr2,λn l hn=>by omega⟩
 rintro k tm h' ⟨⟨w2,w3,w4,w30,w31⟩,hk,X,PX,nX,tr,hcl⟩;obtain⟨T,rfl⟩:=Tm.t5 w2 w3 w4 w30 w31;clear w2 w3 w4 w30 w31;by_cases c1:k<7
 ·obtain⟨p,o,v,hpk,hv⟩:=fam k c1
  obtain⟨Lv,sv⟩:=hv h' X PX nX;obtain⟨l,hl⟩:∃l,l=lists.getD k []:=⟨_,rfl⟩;rw[<-hl]at sv;have hlk:lists[k]? =some l:=by rw[hl,hlists];rcases k with _|_|_|_|_|_|_|k<;>first|rfl|omega
  repeat refine W.g ?_
  refine W.ixv rfl rfl rfl rfl rfl rfl rfl rfl rfl (place_of (j:=k) rfl c1) hpk ?_;repeat refine W.g ?_
  have hlen:l.length<4096/\∀i,i<=l.length->((lists.take k).flatten++l.take i).length<4096:=by
   have e:lists=lists.take k++(l::lists.drop (k+1)):=by
    have hlt:=(List.getElem?_eq_some_iff.1 hlk).1
    conv=>lhs;rw[<-List.take_append_drop k lists,List.drop_eq_getElem_cons hlt]
    rw[List.getElem?_eq_getElem hlt]at hlk;rw[Option.some.inj hlk]
   have hf:(lists.take k).flatten.length+l.length<=lists.flatten.length:=by
    conv=>rhs;rw[e,List.flatten_append,List.length_append,List.flatten_cons,List.length_append]
    omega
   rw[<-hlists]at few;refine⟨by omega,λi hi=> ?_⟩;rw[List.length_append,List.length_take];omega
  have okl:∀s∈l,NameOk s:=okN l (by rw[<-hlists];exact List.mem_of_getElem? hlk)
  refine W.loop (σ:=Nat) (λi tm h'=>(tm.look 2= .ptr (some (h.next,0))/\tm.look 3= .ptr (some (Ha.next,0))/\tm.look 4= .ptr (some (h2.next,0))/\tm.look 5= .int .i64 (k:Int)/\tm.look 30= .agg ps/\tm.look 31= .int .i64 (k:Int)/\tm.look 37=v/\tm.look 38= .int .i64 (l.length:Int)/\tm.look 39= .int .i64 (i:Int))/\i<=l.length/\Ext Hc h'/\(∀c,P c->h'.get c=K.get c)/\K.next<=h'.next/\TabR h' Hc.next tb P ((lists.take k).flatten++l.take i)/\Tt.Clean ((lists.take k).flatten) l i) (λi=>l.length-i) ?_ (s:=0)
   ⟨⟨rfl,rfl,rfl,rfl,rfl,rfl,rfl,rfl,rfl⟩,Nat.zero_le _,X,PX,nX,by rw[List.take_zero,List.append_nil];exact tr,λm a hm=>by omega⟩
  clear X PX nX tr Lv sv;rintro i tm h' ⟨⟨w2,w3,w4,w5,w30,w31,w37,w38,w39⟩,hi,X,PX,nX,tr,hci⟩;obtain⟨T,rfl⟩:=Tm.t9 w2 w3 w4 w5 w30 w31 w37 w38 w39;clear w2 w3 w4 w5 w30 w31 w37 w38 w39;obtain⟨Lv,sv⟩:=hv h' X PX nX;rw[<-hl]at sv;by_cases c2:i<l.length
  ·repeat refine W.g ?_
   refine W.iz λi_ o_ L_=> ?_;repeat refine W.g ?_
   refine W.call rfl rfl rfl (add_w X (rhc.ext X) tr (okl _ (List.getElem_mem c2)) (hlen.2 i hi) (λh5 X5 P5 hin _=> ?_) λh5 n5 X5 nh5 P5 hni tr5=> ?_)
   ·have hw:w.wrong=⟨6,(k:Int),(i:Int)⟩:=by
      unfold WorldD.wrong;rw[<-hlists,dups_some (L:=lists) (seen:=[]) (k:=0) (n:=k) (l:=l) (j:=i) (a:=l[i]) (λn' l' hn hl'=>by simpa using hcl n' l' hn hl') hlk (by simpa using hci) (List.getElem?_eq_getElem c2) (by simpa using hin)];simp
    rw[hw]at q;repeat refine W.g ?_
    refine W.stn (vs:=[.int .i64 6,.int .i64 (k:Int),.int .i64 (i:Int)]) (cs':=[.int .i64 6,.int .i64 (k:Int),.int .i64 (i:Int)]) rfl rfl rfl rfl rfl rfl ((X5.old h.next (by omega)).trans g2c) rfl λM nM gM kM=> ?_;have xn5:=X5.next;have XM:Ext h M:=Ext.store (Xhc.trans X5) nM kM (Nat.le_refl _) (by omega);repeat refine W.g ?_
    refine BodyQ.cell1 rfl rfl gM rfl rfl ?_;exact q _ XM
   ·repeat refine W.g ?_
    have hcs:Tt.Clean ((lists.take k).flatten) l (i+1):=λm a hm ha=>by
     by_cases e:m=i
     ·subst e
      rw[List.getElem?_eq_getElem c2]at ha;cases ha;exact hni
     ·exact hci m a (by omega) ha
    exact⟨i+1,lessN c2,⟨rfl,rfl,rfl,rfl,rfl,rfl,rfl,rfl,rfl⟩,c2,X5,λc hc=>(P5 c hc).trans (PX c hc),Nat.le_trans nX nh5,by rw[List.take_add_one,List.getElem?_eq_getElem c2,<-List.append_assoc];exact tr5,hcs⟩
  ·repeat refine W.g ?_
   have hie:i=l.length:=by omega
   rw[hie,List.take_length]at tr;refine⟨k+1,by show 7-(k+1)<7-k;omega,⟨rfl,rfl,rfl,rfl,rfl⟩,c1,X,PX,nX,?_,λn l' hn hl'=> ?_⟩
   ·rw[List.take_add_one,hlk,List.flatten_append]
    simpa using tr
   ·by_cases e:n=k
    ·subst e
     rw[hlk]at hl';cases hl';rw[<-hie];exact hci
    ·exact hcl n l' (by omega) hl'
 ·repeat refine W.g ?_
  have hk7:k=7:=by omega
  have hd:dups [] w.names.lists 0=none:=dups_no λn l hl=>by
   rw[<-hlists]at hl ⊢
   have hn:n<7:=by
    have:=(List.getElem?_eq_some_iff.1 hl).1;rw[hlists]at this;exact this
   simpa using hcl n l (by omega) hl
  obtain⟨fs,hfs⟩:∃fs:List CV,fs=[.fn 283 [.ptr (some (Ha.next,0))] [],.fn 283 [.ptr (some (Ha.next,0))] [],.fn 284 [.ptr (some (Ha.next,0))] [],.fn 285 [.ptr (some (Ha.next,0))] [],.fn 286 [.ptr (some (Ha.next,0))] [],.fn 287 [.ptr (some (Ha.next,0))] [],.fn 288 [.ptr (some (Ha.next,0))] []]:=⟨_,rfl⟩
  have famF:∀n,n<7->∃f le,nth fs n=some f/\w.errs[n]? =some le/\le.length=(lists.getD n []).length/\∀(J:Heap) (T:Tm) (Q':R->Prop) (i:Nat) (x:Int),Ext Hc J->le[i]? =some x->(∀J',Ext J J'->Q' (.val (.int .i64 x) J'))->W E1 (.call f [.int .i64 (i:Int)]) T J Q':=by
   intro n hn;have ck:∀J,Ext Hc J->Chk J Ha.next w (.ptr (some (tb,0))):=λJ XJ=>⟨wb,_,Lcc.ext XJ,Lw.ext (Xhc.trans XJ),Rp.ext (Xhc.trans XJ) r0⟩;have frc:=Xhc.fr fr;rw[hfs,hlists];rcases n with _|_|_|_|_|_|_|n
   ·exact⟨_,_,rfl,rfl,rfl,λJ T Q' i x XJ hx q'=>by simp at hx⟩
   ·exact⟨_,_,rfl,rfl,by rw[List.length_map];rfl,λJ T Q' i x XJ hx q'=>by
     rw[List.getElem?_map]at hx;cases hy:w.names.stops[i]? with
     |none=>rw[hy]at hx;cases hx
     |some y=>rw[hy]at hx;cases hx;exact fineChk_w _ _ (q' J (Ext.refl J))⟩
   ·exact⟨_,_,rfl,rfl,by rw[List.length_map];exact ln.1.symm,λJ T Q' i x XJ hx q'=>by
     have hi:i<w.paths.length:=by have:=(List.getElem?_eq_some_iff.1 hx).1;rwa[List.length_map]at this
     rw[List.getElem?_map,List.getElem?_eq_getElem hi]at hx;cases hx;exact pathChk_w (ck J XJ) i hi q'⟩
   ·exact⟨_,_,rfl,rfl,by rw[List.length_map];exact ln.2.1.symm,λJ T Q' i x XJ hx q'=>by
     have hi:i<w.doors.length:=by have:=(List.getElem?_eq_some_iff.1 hx).1;rwa[List.length_map]at this
     rw[List.getElem?_map,List.getElem?_eq_getElem hi]at hx;cases hx;exact doorChk_w (ck J XJ) (XJ.fr frc) i hi q'⟩
   ·exact⟨_,_,rfl,rfl,by rw[List.length_map];exact ln.2.2.1.symm,λJ T Q' i x XJ hx q'=>by
     have hi:i<w.routes.length:=by have:=(List.getElem?_eq_some_iff.1 hx).1;rwa[List.length_map]at this
     rw[List.getElem?_map,List.getElem?_eq_getElem hi]at hx;cases hx;exact routeChk_w (ck J XJ) (XJ.fr frc) i hi (rt _ (List.getElem_mem hi)).1 (rt _ (List.getElem_mem hi)).2 q'⟩
   ·exact⟨_,_,rfl,rfl,by rw[List.length_map];exact ln.2.2.2.1.symm,λJ T Q' i x XJ hx q'=>by
     have hi:i<w.trips.length:=by have:=(List.getElem?_eq_some_iff.1 hx).1;rwa[List.length_map]at this
     rw[List.getElem?_map,List.getElem?_eq_getElem hi]at hx;cases hx;exact tripChk_w (ck J XJ) i hi q'⟩
   ·exact⟨_,_,rfl,rfl,by rw[List.length_map];exact ln.2.2.2.2.symm,λJ T Q' i x XJ hx q'=>by
     have hi:i<w.hazards.length:=by have:=(List.getElem?_eq_some_iff.1 hx).1;rwa[List.length_map]at this
     rw[List.getElem?_map,List.getElem?_eq_getElem hi]at hx;cases hx;exact hazChk_w (ck J XJ) (XJ.fr frc) i hi q'⟩
   ·omega
  refine W.k4 2 4 76 77 λT=> ?_;have g0:Hc.get h.next=some (.cells [.int .i64 0,.int .i64 0,.int .i64 0] false):=g2c
  refine W.loop (σ:=Nat) (λk tm h'=>(tm.look 2= .ptr (some (h.next,0))/\tm.look 4= .ptr (some (h2.next,0))/\tm.look 76= .agg fs/\tm.look 77= .int .i64 (k:Int))/\k<=7/\Ext Hc h'/\(∀c,P c->h'.get c=K.get c)/\K.next<=h'.next/\∀(n:Nat) (l:List Int),n<k->w.errs[n]? =some l->∀x∈l,x=0) (λk=>7-k) ?_ (s:=0)
   ⟨⟨rfl,rfl,by rw[hfs];rfl,rfl⟩,Nat.zero_le _,X,PX,nX,λn l hn=>by omega⟩
  clear X PX nX tr hcl hk c1 hk7;rintro k tm h' ⟨⟨w2,w4,w76,w77⟩,hk,X,PX,nX,hcl⟩;obtain⟨T,rfl⟩:=Tm.t4 w2 w4 w76 w77;clear w2 w4 w76 w77;by_cases c1:k<7
  ·obtain⟨p,o,v,hpk,hv⟩:=fam k c1
   obtain⟨f,le,hfk,hle,hln,hf⟩:=famF k c1;repeat refine W.g ?_
   refine W.ixv rfl rfl rfl rfl rfl rfl rfl rfl rfl (place_of (j:=k) rfl c1) hfk ?_;repeat refine W.g ?_
   refine W.ixp (j:=k) rfl rfl rfl rfl rfl rfl rfl (place_of (j:=k) rfl c1) ?_;obtain⟨Lv,sv⟩:=hv h' X PX nX;have Lps:LocE h' h2.next 0 ps:=⟨_,_,(PX _ pa).trans ga4,by omega,by rw[cut_eq,if_pos (by omega)];simp⟩;refine W.ldk (k:=k) Lps (Ext.refl _) rfl rfl rfl rfl rfl rfl (by first|exact hpk|(rw[<-nth_eq];exact hpk)) rfl ?_;repeat refine W.g ?_
   refine W.loop (σ:=Nat) (λi tm h'=>(tm.look 2= .ptr (some (h.next,0))/\tm.look 4= .ptr (some (h2.next,0))/\tm.look 11= .int .i64 (k:Int)/\tm.look 12=f/\tm.look 76= .agg fs/\tm.look 77= .int .i64 (k:Int)/\tm.look 86= .int .i64 ((lists.getD k []).length:Int)/\tm.look 87= .int .i64 (i:Int))/\i<=(lists.getD k []).length/\Ext Hc h'/\(∀c,P c->h'.get c=K.get c)/\K.next<=h'.next/\∀(m:Nat) (b:Int),m<i->le[m]? =some b->b=0) (λi=>(lists.getD k []).length-i) ?_ (s:=0)
    ⟨⟨rfl,rfl,rfl,rfl,rfl,rfl,rfl,rfl⟩,Nat.zero_le _,X,PX,nX,λm b hm=>by omega⟩
   have hlm:(lists.getD k []).length<4096:=by
    have hlk:lists[k]? =some (lists.getD k []):=by rw[hlists];rcases k with _|_|_|_|_|_|_|k<;>first|rfl|omega
    have hm:=len_le_flatten (List.mem_of_getElem? hlk);rw[<-hlists]at few;omega
   clear X PX nX Lv sv Lps;rintro i tm h' ⟨⟨w2,w4,w11,w12,w76,w77,w86,w87⟩,hi,X,PX,nX,hci⟩;obtain⟨T,rfl⟩:=Tm.t8 w2 w4 w11 w12 w76 w77 w86 w87;clear w2 w4 w11 w12 w76 w77 w86 w87;obtain⟨n,hnn⟩:∃n,n=(lists.getD k []).length:=⟨_,rfl⟩;rw[<-hnn]at hi hlm hln ⊢;by_cases c2:i<n
   ·obtain⟨x,hx⟩:∃x,le[i]? =some x:=⟨_,List.getElem?_eq_getElem (by omega)⟩
    repeat refine W.g ?_
    refine W.call rfl rfl rfl (hf h' _ _ i x X hx λJ X5=> ?_);by_cases c3:x=0
    ·repeat refine W.g ?_
     exact⟨i+1,lessN c2,⟨rfl,rfl,rfl,rfl,rfl,rfl,rfl,rfl⟩,c2,X.trans X5,λc hc=>(X5.old c (Nat.lt_of_lt_of_le (pl c hc) nX)).trans (PX c hc),Nat.le_trans nX X5.next,λm b hm hb=>by
      by_cases e:m=i
      ·rw[e,hx]at hb;cases hb;exact c3
      ·exact hci m b (by omega) hb⟩
    ·have hw:w.wrong=⟨x,(k:Int),(i:Int)⟩:=wrong_err hd hcl hle hci hx c3
     rw[hw]at q;repeat refine W.g ?_
     refine W.stn (vs:=[.int .i64 x,.int .i64 (k:Int),.int .i64 (i:Int)]) (cs':=[.int .i64 x,.int .i64 (k:Int),.int .i64 (i:Int)]) rfl rfl rfl rfl rfl rfl (((X.trans X5).old h.next (by omega)).trans g0) rfl λM nM gM kM=> ?_;have xn5:=(X.trans X5).next;have XM:Ext h M:=Ext.store (Xhc.trans (X.trans X5)) nM kM (Nat.le_refl _) (by omega);repeat refine W.g ?_
     refine BodyQ.cell1 rfl rfl gM rfl rfl ?_;exact q _ XM
   ·repeat refine W.g ?_
    exact⟨k+1,by show 7-(k+1)<7-k;omega,⟨rfl,rfl,rfl,rfl⟩,c1,X,PX,nX,λm l hm hl x hx=>by
     by_cases e:m=k
     ·subst e
      rw[hle]at hl;cases hl;obtain⟨j,hj,rfl⟩:=List.getElem_of_mem hx;exact hci j _ (by omega) (List.getElem?_eq_getElem hj)
     ·exact hcl m l (by omega) hl x hx⟩
  ·repeat refine W.g ?_
   have hw:w.wrong=Wrong0:=wrong_none hd λn l hl=>hcl n l (by
    have:=(List.getElem?_eq_some_iff.1 hl).1;have h7:w.errs.length=7:=rfl;omega) hl
   rw[hw]at q;have g9:h'.get h.next=some (.cells [.int .i64 0,.int .i64 0,.int .i64 0] false):=(X.old h.next (by omega)).trans g0;have hnH:=Xhc.next;refine W.stn (vs:=[.int .i64 0,.int .i64 0,.int .i64 0]) (cs':=[.int .i64 0,.int .i64 0,.int .i64 0]) rfl rfl rfl rfl rfl rfl g9 rfl λM nM gM kM=> ?_;repeat refine W.g ?_
   refine BodyQ.cell1 rfl rfl gM rfl rfl ?_;exact q _ (Ext.store (Xhc.trans X) nM kM (Nat.le_refl _) (by have:=X.next;omega))
end
end Go.Proofs.YtnjkaahbhebaeaaGreatDoor
