/- Names of things: what the program's functions over texts come to. No condition but that the table of spaces lies where it does. -/
import Derived.Test.YtmgpjfnlciapkaaGreatDoorXU
import Derived.Test.YtmgpjfnlciapkaaGreatDoorYA
set_option linter.unusedVariables false
set_option linter.unusedSimpArgs false
namespace Go.Proofs.YtmgpjfnlciapkaaGreatDoor
open Go Go.CM Go.CM.Tt
noncomputable section
set_option maxHeartbeats 4000000
def RH (h:Heap):Prop:=rowsHold h rows=true/\∀r∈rows,r.1<h.next
theorem RH.ext {h h':Heap} (r:RH h) (x:Ext h h'):RH h':=⟨rowsHold_of (λq hq=>x.old _ (r.2 q hq)) r.1,λq hq=>Nat.lt_of_lt_of_le (r.2 q hq) x.next⟩
theorem class_w {h:Heap} {tm:Tm} {Q:R->Prop} (c:Int) (q:Q (.val (.int .i64 (classI c)) h)):W E1 (.call (.fn 141 [] []) [.int .u8 c]) tm h Q:=by
 refine W.fn (s:=fnOf Tryz.f141) rfl rfl rfl rfl ?_;unfold classI at q;by_cases c1:97<=c/\c<=122
 ·rw[if_pos c1]at q
  repeat refine W.g ?_
  exact q
 rw[if_neg c1]at q;by_cases c2:48<=c/\c<=57
 ·rw[if_pos c2]at q
  repeat refine W.g ?_
  exact q
 rw[if_neg c2]at q;by_cases c3:c=45
 ·rw[if_pos (.inl c3)]at q
  repeat refine W.g ?_
  exact q
 by_cases c4:c=95
 ·rw[if_pos (.inr c4)]at q
  repeat refine W.g ?_
  exact q
 rw[if_neg (λh=>h.elim c3 c4)]at q;by_cases c5:97<=c
 ·repeat refine W.g ?_
  exact q
 by_cases c6:48<=c
 ·repeat refine W.g ?_
  exact q
 repeat refine W.g ?_
 exact q
theorem index_w {h:Heap} {tm:Tm} {Q:R->Prop} {v:CV} {l:List Str} (s:Str) (sl:Sl h v l) (hm:l.length<=1099511627776)
  (q:Q (.val (.int .i64 (place l s)) h)):W E1 (.call (.fn 115 [] []) [v,.str s]) tm h Q:=by
 refine W.fn (s:=fnOf Tryz.f115) rfl rfl rfl rfl ?_;repeat refine W.g ?_
 refine W.loop (σ:=Nat) (λk tm h'=>h'=h/\tm.look 0=v/\tm.look 1= .str s/\tm.look 7= .int .i64 (l.length:Int)/\tm.look 8= .int .i64 (k:Int)/\k<=l.length/\∀j,j<k->∀a,l[j]? =some a->a≠s) (λk=>l.length-k) ?_ (s:=0)
  ⟨rfl,rfl,rfl,rfl,rfl,Nat.zero_le _,λj hj=>by omega⟩
 rintro k tm h' ⟨rfl,w0,w1,w7,w8,hk,hn⟩;obtain⟨T,rfl⟩:=Tm.t4 w0 w1 w7 w8;clear w0 w1 w7 w8;by_cases c1:k<l.length
 ·repeat refine W.g ?_
  refine W.iz λi_ o_ L_=> ?_;by_cases c2:s=l[k]
  ·repeat refine W.g ?_
   rw[place_some (l:=l) (s:=s) (k:=k) (by rw[List.getElem?_eq_getElem c1,<-c2]) hn]at q;exact q
  ·repeat refine W.g ?_
   refine⟨k+1,lessN c1,rfl,rfl,rfl,rfl,rfl,c1,λj hj a ha=> ?_⟩;by_cases e:j=k
   ·subst e
    rw[List.getElem?_eq_getElem c1]at ha;cases ha;exact λh=>c2 h.symm
   ·exact hn j (by omega) a ha
 ·repeat refine W.g ?_
  rw[place_none (l:=l) (s:=s) λj a ha=>hn j (by have:=(List.getElem?_eq_some_iff.1 ha).1;omega) a ha]at q;exact q
theorem contains_w {h:Heap} {tm:Tm} {Q:R->Prop} {v:CV} {l:List Str} (s:Str) (sl:Sl h v l) (hm:l.length<=1099511627776)
  (q:∀b:Bool,(b=true↔s∈l)->Q (.val (.bool b) h)):W E1 (.call (.fn 161 [] []) [v,.str s]) tm h Q:=by
 refine W.fn (s:=fnOf Tryz.f161) rfl rfl rfl rfl ?_;repeat refine W.g ?_
 refine W.call rfl rfl rfl (index_w s sl hm ?_);by_cases c:0<=place l s
 ·repeat refine W.g ?_
  exact q true (Iff.intro (λ_=>place_mem.1 c) (λ_=>rfl))
 ·repeat refine W.g ?_
  exact q false (Iff.intro (λh=>by cases h) (λh=>absurd (place_mem.2 h) c))
theorem reserved_w {h:Heap} {tm:Tm} {Q:R->Prop} (s:Str) (rh:RH h)
  (q:∀h' (b:Bool),Ext h h'->(b=true↔s∈reserved)->Q (.val (.bool b) h')):W E1 (.call (.fn 142 [] []) [.str s]) tm h Q:=by
 refine W.fn (s:=fnOf Tryz.f142) rfl rfl rfl rfl ?_;repeat refine W.g ?_
 refine W.call rfl rfl rfl (W.knownN (v:= .slice (some (h.next,0)) 15 15 0) (news:=[reserved.map λs=> .str s]) rfl rh.1 ?_);have X:Ext h (kAdd h [reserved.map λs=> .str s]):=kAdd_ext _ _
 have sl:Sl (kAdd h [reserved.map λs=> .str s]) (.slice (some (h.next,0)) 15 15 0) reserved:=by
  refine Sl.of_map Flat.iff (.inr (.inr ⟨h.next,0,15,0,_,false,rfl,Nat.lt_succ_self _,new_same _ _,λj e he=> ?_,Nat.le_refl _,.inl rfl⟩))
  have hz:∀e∈reserved.map (Flat.enc:Str->List CV),e.length=1:=λe he=>by
   obtain⟨c,_,rfl⟩:=List.mem_map.1 he;rfl
  refine⟨hz e (List.mem_of_getElem? he),?_⟩;exact flat_cut hz he
 generalize kAdd h [reserved.map λs=> .str s]=H at X sl;repeat refine W.g ?_
 refine W.call rfl rfl rfl (contains_w s sl (by decide) λb hb=> ?_);repeat refine W.g ?_
 exact q H b X hb
theorem odd_w {h:Heap} {tm:Tm} {Q:R->Prop} (c:Int) (q:Q (.val (.bool (decide (c≠0))) h)):W E1 (.call (.fn 144 [] []) [.int .i64 c]) tm h Q:=by
 refine W.fn (s:=fnOf Tryz.f144) rfl rfl rfl rfl ?_;repeat refine W.g ?_
 exact q
theorem run_w {h:Heap} {tm:Tm} {Q:R->Prop} (s:Str) (hm:s.length<=24)
  (q:∀n:Nat,n<=s.length->(∀j c,j<n->s[j]? =some c->classB c.toNat≠0)->(∀c,s[n]? =some c->classB c.toNat=0)->Q (.val (.int .i64 (n:Int)) h)):W E1 (.call (.fn 143 [] []) [.str s,.fn 144 [] []]) tm h Q:=by
 refine W.fn (s:=fnOf Tryz.f143) rfl rfl rfl rfl ?_;repeat refine W.g ?_
 refine W.loop (σ:=Nat) (λk tm h'=>h'=h/\tm.look 0= .str s/\tm.look 1= .fn 144 [] []/\tm.look 5= .int .i64 (k:Int)/\k<=s.length/\∀j c,j<k->s[j]? =some c->classB c.toNat≠0) (λk=>s.length-k) ?_ (s:=0)
  ⟨rfl,rfl,rfl,rfl,Nat.zero_le _,λj c hj=>by omega⟩
 rintro k tm h' ⟨rfl,w0,w1,w5,hk,hn⟩;obtain⟨T,rfl⟩:=Tm.t3 w0 w1 w5;clear w0 w1 w5;by_cases c1:k<s.length
 ·repeat refine W.g ?_
  refine W.ixs (j:=k) (List.getElem?_eq_getElem c1) rfl rfl rfl rfl rfl rfl rfl ?_;refine W.call rfl rfl rfl (class_w _ ?_);repeat refine W.g ?_
  refine W.call rfl rfl rfl (odd_w _ ?_);rw[classI_nat];by_cases c2:classB s[k].toNat≠0
  ·repeat refine W.g ?_
   refine⟨k+1,lessN c1,rfl,rfl,rfl,rfl,c1,λj c hj hc=> ?_⟩;by_cases e:j=k
   ·subst e
    rw[List.getElem?_eq_getElem c1]at hc;cases hc;exact c2
   ·exact hn j c (by omega) hc
  ·repeat refine W.g ?_
   refine q k (by omega) hn λc hc=> ?_;rw[List.getElem?_eq_getElem c1]at hc;cases hc;exact Classical.byContradiction c2
 ·repeat refine W.g ?_
  exact q k hk hn λc hc=>by
   have:=(List.getElem?_eq_some_iff.1 hc).1;omega
theorem name_w {h:Heap} {tm:Tm} {Q:R->Prop} (s:Str) (rh:RH h)
  (q:∀h' (b:Bool),Ext h h'->(b=true↔NameOk s)->Q (.val (.bool b) h')):W E1 (.call (.fn 76 [] []) [.str s]) tm h Q:=by
 refine W.fn (s:=fnOf Tryz.f76) rfl rfl rfl rfl ?_;by_cases c0:s=[]
 ·repeat refine W.g ?_
  exact q h false (Ext.refl _) (Iff.intro (λh=>by cases h) (λh=>absurd c0 h.1))
 by_cases c1:24<s.length
 ·repeat refine W.g ?_
  exact q h false (Ext.refl _) (Iff.intro (λh=>by cases h) (λh=>by have:=h.2.1;omega))
 have hpos:0<s.length:=List.length_pos_iff.2 c0;repeat refine W.g ?_
 refine W.ixs (j:=0) (List.getElem?_eq_getElem hpos) rfl rfl rfl rfl rfl rfl rfl ?_;refine W.call rfl rfl rfl (class_w _ ?_);rw[classI_nat];by_cases c2:classB s[0].toNat≠1
 ·repeat refine W.g ?_
  exact q h false (Ext.refl _) (Iff.intro (λh=>by cases h) (λh=>absurd (h.2.2.1 _ (List.getElem?_eq_getElem hpos)) c2))
 repeat refine W.g ?_
 refine W.call rfl rfl rfl (reserved_w s rh λH b X hb=> ?_);cases b
 ·repeat refine W.g ?_
  refine W.call rfl rfl rfl (run_w s (by omega) λn hn h1 h2=> ?_);by_cases c3:(n:Int)=(s.length:Int)
  ·repeat refine W.g ?_
   refine q H true X (Iff.intro (λ_=>⟨c0,by omega,λc hc=> ?_,λhr=>(by cases hb.2 hr),λc hc=> ?_⟩) (λ_=>rfl))
   ·rw[List.getElem?_eq_getElem hpos]at hc
    cases hc;exact Classical.byContradiction c2
   ·obtain⟨j,hj⟩:=List.getElem?_of_mem hc
    have:=(List.getElem?_eq_some_iff.1 hj).1;exact h1 j c (by omega) hj
  ·repeat refine W.g ?_
   refine q H false X (Iff.intro (λh=>by cases h) (λh=> ?_));have hlt:n<s.length:=by omega
   exact absurd (h2 _ (List.getElem?_eq_getElem hlt)) (h.2.2.2.2 _ (List.getElem_mem hlt))
 ·repeat refine W.g ?_
  exact q H false X (Iff.intro (λh=>by cases h) (λh=>absurd (hb.1 rfl) h.2.2.2.1))
end
end Go.Proofs.YtmgpjfnlciapkaaGreatDoor

namespace Go.Proofs.YtmgpjfnlciapkaaGreatDoor
open Go Go.CM Go.CM.Tt
noncomputable section
set_option maxHeartbeats 8000000
theorem within_w {h:Heap} {tm:Tm} {Q:R->Prop} (lo x hi:Int) (q:Q (.val (.bool (decide (lo<=x/\x<=hi))) h)):W E1 (.call (.fn 147 [] []) [.int .i64 lo,.int .i64 x,.int .i64 hi]) tm h Q:=by
 refine W.fn (s:=fnOf Tryz.f147) rfl rfl rfl rfl ?_;by_cases c:lo<=x
 ·by_cases d:x<=hi
  ·rw[decide_eq_true (⟨c,d⟩:lo<=x/\x<=hi)]at q
   repeat refine W.g ?_
   exact q
  ·rw[decide_eq_false (λh=>d h.2:¬(lo<=x/\x<=hi))]at q
   repeat refine W.g ?_
   exact q
 ·rw[decide_eq_false (λh=>c h.1:¬(lo<=x/\x<=hi))]at q
  repeat refine W.g ?_
  exact q
theorem tick_w {h:Heap} {tm:Tm} {Q:R->Prop} (t:Int) (q:∀e:Int,(e=0↔TickOk t)->Q (.val (.int .i64 e) h)):W E1 (.call (.fn 80 [] []) [.int .i64 t]) tm h Q:=by
 refine W.fn (s:=fnOf Tryz.f80) rfl rfl rfl rfl ?_;repeat refine W.g ?_
 refine W.call rfl rfl rfl (within_w 0 t 1099511627776 ?_);by_cases c:0<=t/\t<=1099511627776
 ·repeat refine W.g ?_
  exact q 0 (Iff.intro (λ_=>c) (λ_=>rfl))
 ·repeat refine W.g ?_
  exact q 9 (Iff.intro (λh=>by cases h) (λh=>absurd h c))
theorem idxF_str {h:Heap} {tm:Tm} {Q:R->Prop} {v:CV} {l:List Str} (f:Nat) (first caps:List CV) (P:Str->Prop) (sl:Sl h v l) (hm:l.length<=1099511627776)
  (hf:∀d,d∈l->∀(tm:Tm) (h':Heap) (Q:R->Prop),Ext h h'->(∀h2 (b:Bool),Ext h' h2->(b=true↔P d)->Q (.val (.bool b) h2))->W E1 (.call (.fn f first caps) [.str d]) tm h' Q)
  (q:∀h' (r:Int),Ext h h'->(0<=r↔∃d,d∈l/\P d)->Q (.val (.int .i64 r) h')):W E1 (.call (.fn 140 [] []) [v,.fn f first caps]) tm h Q:=by
 refine W.fn (s:=fnOf Tryz.f140) rfl rfl rfl rfl ?_;repeat refine W.g ?_
 refine W.loop (σ:=Nat) (λk tm h'=>Ext h h'/\tm.look 0=v/\tm.look 1= .fn f first caps/\tm.look 7= .int .i64 (l.length:Int)/\tm.look 8= .int .i64 (k:Int)/\k<=l.length/\∀j,j<k->∀a,l[j]? =some a->¬P a) (λk=>l.length-k) ?_ (s:=0)
  ⟨Ext.refl _,rfl,rfl,rfl,rfl,Nat.zero_le _,λj hj=>by omega⟩
 rintro k tm h' ⟨X,w0,w1,w7,w8,hk,hn⟩;obtain⟨T,rfl⟩:=Tm.t4 w0 w1 w7 w8;clear w0 w1 w7 w8;by_cases c1:k<l.length
 ·repeat refine W.g ?_
  refine W.iz λi_ o_ L_=> ?_;repeat refine W.g ?_
  refine W.call rfl rfl rfl (hf l[k] (List.getElem_mem c1) _ _ _ X λh2 b X2 hb=> ?_);cases b
  ·repeat refine W.g ?_
   refine⟨k+1,lessN c1,X.trans X2,rfl,rfl,rfl,rfl,c1,λj hj a ha hp=> ?_⟩;by_cases e:j=k
   ·subst e
    rw[List.getElem?_eq_getElem c1]at ha;cases ha;cases hb.2 hp
   ·exact hn j (by omega) a ha hp
  ·repeat refine W.g ?_
   exact q _ _ (X.trans X2) (Iff.intro (λ_=>⟨l[k],List.getElem_mem c1,hb.1 rfl⟩) (λ_=>by omega))
 ·repeat refine W.g ?_
  refine q _ _ X (Iff.intro (λh=>by omega) (λh=> ?_));obtain⟨d,hd,hp⟩:=h;obtain⟨j,hj⟩:=List.getElem?_of_mem hd;exact absurd hp (hn j (by have:=(List.getElem?_eq_some_iff.1 hj).1;omega) d hj)
theorem conF_str {h:Heap} {tm:Tm} {Q:R->Prop} {v:CV} {l:List Str} (f:Nat) (first caps:List CV) (P:Str->Prop) (sl:Sl h v l) (hm:l.length<=1099511627776)
  (hf:∀d,d∈l->∀(tm:Tm) (h':Heap) (Q:R->Prop),Ext h h'->(∀h2 (b:Bool),Ext h' h2->(b=true↔P d)->Q (.val (.bool b) h2))->W E1 (.call (.fn f first caps) [.str d]) tm h' Q)
  (q:∀h' (b:Bool),Ext h h'->(b=true↔∃d,d∈l/\P d)->Q (.val (.bool b) h')):W E1 (.call (.fn 73 [] []) [v,.fn f first caps]) tm h Q:=by
 refine W.fn (s:=fnOf Tryz.f73) rfl rfl rfl rfl ?_;repeat refine W.g ?_
 refine W.call rfl rfl rfl (idxF_str f first caps P sl hm hf λh' r X hr=> ?_);by_cases c:0<=r
 ·repeat refine W.g ?_
  exact q h' true X (Iff.intro (λ_=>hr.1 c) (λ_=>rfl))
 ·repeat refine W.g ?_
  exact q h' false X (Iff.intro (λh=>by cases h) (λh=>absurd (hr.2 h) c))
theorem idxF_int {h:Heap} {tm:Tm} {Q:R->Prop} {v:CV} {l:List Int} (f:Nat) (first caps:List CV) (P:Int->Prop) (sl:Sl h v l) (hm:l.length<=1099511627776)
  (hf:∀d,d∈l->∀(tm:Tm) (h':Heap) (Q:R->Prop),Ext h h'->(∀h2 (b:Bool),Ext h' h2->(b=true↔P d)->Q (.val (.bool b) h2))->W E1 (.call (.fn f first caps) [.int .i64 d]) tm h' Q)
  (q:∀h' (r:Int),Ext h h'->(0<=r↔∃d,d∈l/\P d)->Q (.val (.int .i64 r) h')):W E1 (.call (.fn 145 [] []) [v,.fn f first caps]) tm h Q:=by
 refine W.fn (s:=fnOf Tryz.f145) rfl rfl rfl rfl ?_;repeat refine W.g ?_
 refine W.loop (σ:=Nat) (λk tm h'=>Ext h h'/\tm.look 0=v/\tm.look 1= .fn f first caps/\tm.look 7= .int .i64 (l.length:Int)/\tm.look 8= .int .i64 (k:Int)/\k<=l.length/\∀j,j<k->∀a,l[j]? =some a->¬P a) (λk=>l.length-k) ?_ (s:=0)
  ⟨Ext.refl _,rfl,rfl,rfl,rfl,Nat.zero_le _,λj hj=>by omega⟩
 rintro k tm h' ⟨X,w0,w1,w7,w8,hk,hn⟩;obtain⟨T,rfl⟩:=Tm.t4 w0 w1 w7 w8;clear w0 w1 w7 w8;by_cases c1:k<l.length
 ·repeat refine W.g ?_
  refine W.iz λi_ o_ L_=> ?_;repeat refine W.g ?_
  refine W.call rfl rfl rfl (hf l[k] (List.getElem_mem c1) _ _ _ X λh2 b X2 hb=> ?_);cases b
  ·repeat refine W.g ?_
   refine⟨k+1,lessN c1,X.trans X2,rfl,rfl,rfl,rfl,c1,λj hj a ha hp=> ?_⟩;by_cases e:j=k
   ·subst e
    rw[List.getElem?_eq_getElem c1]at ha;cases ha;cases hb.2 hp
   ·exact hn j (by omega) a ha hp
  ·repeat refine W.g ?_
   exact q _ _ (X.trans X2) (Iff.intro (λ_=>⟨l[k],List.getElem_mem c1,hb.1 rfl⟩) (λ_=>by omega))
 ·repeat refine W.g ?_
  refine q _ _ X (Iff.intro (λh=>by omega) (λh=> ?_));obtain⟨d,hd,hp⟩:=h;obtain⟨j,hj⟩:=List.getElem?_of_mem hd;exact absurd hp (hn j (by have:=(List.getElem?_eq_some_iff.1 hj).1;omega) d hj)
theorem conF_int {h:Heap} {tm:Tm} {Q:R->Prop} {v:CV} {l:List Int} (f:Nat) (first caps:List CV) (P:Int->Prop) (sl:Sl h v l) (hm:l.length<=1099511627776)
  (hf:∀d,d∈l->∀(tm:Tm) (h':Heap) (Q:R->Prop),Ext h h'->(∀h2 (b:Bool),Ext h' h2->(b=true↔P d)->Q (.val (.bool b) h2))->W E1 (.call (.fn f first caps) [.int .i64 d]) tm h' Q)
  (q:∀h' (b:Bool),Ext h h'->(b=true↔∃d,d∈l/\P d)->Q (.val (.bool b) h')):W E1 (.call (.fn 77 [] []) [v,.fn f first caps]) tm h Q:=by
 refine W.fn (s:=fnOf Tryz.f77) rfl rfl rfl rfl ?_;repeat refine W.g ?_
 refine W.call rfl rfl rfl (idxF_int f first caps P sl hm hf λh' r X hr=> ?_);by_cases c:0<=r
 ·repeat refine W.g ?_
  exact q h' true X (Iff.intro (λ_=>hr.1 c) (λ_=>rfl))
 ·repeat refine W.g ?_
  exact q h' false X (Iff.intro (λh=>by cases h) (λh=>absurd (hr.2 h) c))
theorem idxF_route {h:Heap} {tm:Tm} {Q:R->Prop} {v:CV} {l:List RouteS} (f:Nat) (first caps:List CV) (P:RouteS->Prop) (sl:Sl h v l) (hm:l.length<=1099511627776)
  (hf:∀d,d∈l->∀e,Rp.R h e d->∀(tm:Tm) (h':Heap) (Q:R->Prop),Ext h h'->(∀h2 (b:Bool),Ext h' h2->(b=true↔P d)->Q (.val (.bool b) h2))->W E1 (.call (.fn f first caps) [.agg e]) tm h' Q)
  (q:∀h' (r:Int),Ext h h'->(0<=r↔∃d,d∈l/\P d)->Q (.val (.int .i64 r) h')):W E1 (.call (.fn 148 [] []) [v,.fn f first caps]) tm h Q:=by
 refine W.fn (s:=fnOf Tryz.f148) rfl rfl rfl rfl ?_;repeat refine W.g ?_
 refine W.loop (σ:=Nat) (λk tm h'=>Ext h h'/\tm.look 0=v/\tm.look 1= .fn f first caps/\tm.look 7= .int .i64 (l.length:Int)/\tm.look 8= .int .i64 (k:Int)/\k<=l.length/\∀j,j<k->∀a,l[j]? =some a->¬P a) (λk=>l.length-k) ?_ (s:=0)
  ⟨Ext.refl _,rfl,rfl,rfl,rfl,Nat.zero_le _,λj hj=>by omega⟩
 rintro k tm h' ⟨X,w0,w1,w7,w8,hk,hn⟩;obtain⟨T,rfl⟩:=Tm.t4 w0 w1 w7 w8;clear w0 w1 w7 w8;by_cases c1:k<l.length
 ·repeat refine W.g ?_
  refine W.ixR (by assumption) c1 rfl rfl rfl rfl rfl rfl rfl λi_ o_ e L_ r_=> ?_;have hlen:=Rp.len r_;repeat refine W.g ?_
  refine W.call rfl rfl rfl (hf l[k] (List.getElem_mem c1) e r_ _ _ _ X λh2 b X2 hb=> ?_);cases b
  ·repeat refine W.g ?_
   refine⟨k+1,lessN c1,X.trans X2,rfl,rfl,rfl,rfl,c1,λj hj a ha hp=> ?_⟩;by_cases e:j=k
   ·subst e
    rw[List.getElem?_eq_getElem c1]at ha;cases ha;cases hb.2 hp
   ·exact hn j (by omega) a ha hp
  ·repeat refine W.g ?_
   exact q _ _ (X.trans X2) (Iff.intro (λ_=>⟨l[k],List.getElem_mem c1,hb.1 rfl⟩) (λ_=>by omega))
 ·repeat refine W.g ?_
  refine q _ _ X (Iff.intro (λh=>by omega) (λh=> ?_));obtain⟨d,hd,hp⟩:=h;obtain⟨j,hj⟩:=List.getElem?_of_mem hd;exact absurd hp (hn j (by have:=(List.getElem?_eq_some_iff.1 hj).1;omega) d hj)
theorem conF_route {h:Heap} {tm:Tm} {Q:R->Prop} {v:CV} {l:List RouteS} (f:Nat) (first caps:List CV) (P:RouteS->Prop) (sl:Sl h v l) (hm:l.length<=1099511627776)
  (hf:∀d,d∈l->∀e,Rp.R h e d->∀(tm:Tm) (h':Heap) (Q:R->Prop),Ext h h'->(∀h2 (b:Bool),Ext h' h2->(b=true↔P d)->Q (.val (.bool b) h2))->W E1 (.call (.fn f first caps) [.agg e]) tm h' Q)
  (q:∀h' (b:Bool),Ext h h'->(b=true↔∃d,d∈l/\P d)->Q (.val (.bool b) h')):W E1 (.call (.fn 81 [] []) [v,.fn f first caps]) tm h Q:=by
 refine W.fn (s:=fnOf Tryz.f81) rfl rfl rfl rfl ?_;repeat refine W.g ?_
 refine W.call rfl rfl rfl (idxF_route f first caps P sl hm hf λh' r X hr=> ?_);by_cases c:0<=r
 ·repeat refine W.g ?_
  exact q h' true X (Iff.intro (λ_=>hr.1 c) (λ_=>rfl))
 ·repeat refine W.g ?_
  exact q h' false X (Iff.intro (λh=>by cases h) (λh=>absurd (hr.2 h) c))
end
end Go.Proofs.YtmgpjfnlciapkaaGreatDoor

namespace Go.Proofs.YtmgpjfnlciapkaaGreatDoor
open Go Go.CM Go.CM.Tt
noncomputable section
set_option maxHeartbeats 8000000
theorem clone_str {h:Heap} {tm:Tm} {Q:R->Prop} {v:CV} {l:List Str} (sl:Sl h v l) (hm:l.length<=1073741824)
  (q:∀h' v',Ext h h'->OwnR h' h.next 1 v' (l.map Flat.enc)->Q (.val v' h')):W E1 (.call (.fn 83 [] []) [v]) tm h Q:=by
 refine W.fn (s:=fnOf Tryz.f83) rfl rfl rfl rfl ?_;have sg:=Sl.to_map Flat.iff sl;have hlen:(l.map Flat.enc).length=l.length:=List.length_map _;have e0:∀{h':Heap},OwnR h' h'.next 1 (.slice none 0 0 0) []:=OwnR.nil;rcases sg with⟨rfl,h0⟩|⟨rfl,h0⟩|⟨i,o,c,x,cs,ro,rfl,h2,h3,h4,h5,h6⟩
 ·repeat refine W.g ?_
  exact q _ _ (Ext.refl _) (by rw[h0];exact OwnR.nil)
 ·repeat (first|refine W.g ?_|refine W.n λh_ X_ n_ g_ S_=> ?_)
  exact q _ _ X_ (by rw[h0];exact .inr ⟨h.next,0,false,rfl,Nat.le_refl _,by omega,g_,λe he=>(by cases he),.inl ⟨rfl,.inl rfl⟩⟩)
 ·have sg:SlG h 1 (.slice (some (i,o)) (l.map (Flat.enc:Str->List CV)).length c x) (l.map Flat.enc):= .inr (.inr ⟨i,o,c,x,cs,ro,rfl,h2,h3,h4,h5,h6⟩)
  repeat (first|refine W.g ?_|refine W.n λh_ X_ n_ g_ S_=> ?_)
  refine W.apR X_ (z:=1) (l:=[]) (l2:=l.map Flat.enc) (.inr ⟨h.next,0,false,rfl,Nat.le_refl _,by omega,g_,λe he=>(by cases he),.inl ⟨rfl,.inl rfl⟩⟩) (sg.ext X_) rfl rfl rfl rfl rfl rfl rfl rfl rfl rfl rfl rfl (by rw[hlen];show(0+l.length)*16<=_;omega) λv' h' X O=> ?_;repeat refine W.g ?_
  exact q _ _ X O
theorem clone_int {h:Heap} {tm:Tm} {Q:R->Prop} {v:CV} {l:List Int} (sl:Sl h v l) (hm:l.length<=1073741824)
  (q:∀h' v',Ext h h'->OwnR h' h.next 1 v' (l.map Flat.enc)->Q (.val v' h')):W E1 (.call (.fn 102 [] []) [v]) tm h Q:=by
 refine W.fn (s:=fnOf Tryz.f102) rfl rfl rfl rfl ?_;have sg:=Sl.to_map Flat.iff sl;have hlen:(l.map Flat.enc).length=l.length:=List.length_map _;have e0:∀{h':Heap},OwnR h' h'.next 1 (.slice none 0 0 0) []:=OwnR.nil;rcases sg with⟨rfl,h0⟩|⟨rfl,h0⟩|⟨i,o,c,x,cs,ro,rfl,h2,h3,h4,h5,h6⟩
 ·repeat refine W.g ?_
  exact q _ _ (Ext.refl _) (by rw[h0];exact OwnR.nil)
 ·repeat (first|refine W.g ?_|refine W.n λh_ X_ n_ g_ S_=> ?_)
  exact q _ _ X_ (by rw[h0];exact .inr ⟨h.next,0,false,rfl,Nat.le_refl _,by omega,g_,λe he=>(by cases he),.inl ⟨rfl,.inl rfl⟩⟩)
 ·have sg:SlG h 1 (.slice (some (i,o)) (l.map (Flat.enc:Int->List CV)).length c x) (l.map Flat.enc):= .inr (.inr ⟨i,o,c,x,cs,ro,rfl,h2,h3,h4,h5,h6⟩)
  repeat (first|refine W.g ?_|refine W.n λh_ X_ n_ g_ S_=> ?_)
  refine W.apR X_ (z:=1) (l:=[]) (l2:=l.map Flat.enc) (.inr ⟨h.next,0,false,rfl,Nat.le_refl _,by omega,g_,λe he=>(by cases he),.inl ⟨rfl,.inl rfl⟩⟩) (sg.ext X_) rfl rfl rfl rfl rfl rfl rfl rfl rfl rfl rfl rfl (by rw[hlen];show(0+l.length)*8<=_;omega) λv' h' X O=> ?_;repeat refine W.g ?_
  exact q _ _ X O
theorem take_flat {α β:Type} {l:List α} {f:α->List β} {k:Nat} (h:k<l.length):(l.take (k+1)).flatMap f=(l.take k).flatMap f++f l[k]:=by
 rw[List.take_add_one,List.getElem?_eq_getElem h,List.flatMap_append];simp
theorem flat_le {α β:Type} {l:List α} {f:α->List β} {k:Nat}:((l.take k).flatMap f).length<=(l.flatMap f).length:=by
 conv=>rhs;rw[<-List.take_append_drop k l,List.flatMap_append,List.length_append]
 omega
theorem map_app {α β:Type} {f:α->β} {a b:List α}:(a++b).map f=a.map f++b.map f:=List.map_append
theorem names_w {h:Heap} {tm:Tm} {Q:R->Prop} {cs:List CV} {x:SheetD} (r:Rp.R h cs x) (few:x.few) (hl:x.all.length<=1073741824)
  (q:∀h' v',Ext h h'->Sl h' v' x.all->Q (.val v' h')):W E1 (.call (.fn 74 [] []) [.agg cs]) tm h Q:=by
 obtain⟨v1,v2,v3,v4,v5,v6,rfl,s1,s2,s3,s4,s5,s6⟩:=r;obtain⟨f1,f2,f3,f4,f5,f6⟩:=few;refine W.fn (s:=fnOf Tryz.f74) rfl rfl rfl rfl ?_;unfold SheetD.all at hl q;obtain⟨pA,hpA⟩:∃pA,pA=x.paths.flatMap λp=>[p.name,p.a,p.b]:=⟨_,rfl⟩;obtain⟨dA,hdA⟩:∃dA,dA=x.doors.flatMap λd=>[d.name,d.a,d.b]:=⟨_,rfl⟩;obtain⟨rA,hrA⟩:∃rA,rA=x.routes.flatMap λr=>r.name::r.stops:=⟨_,rfl⟩;obtain⟨tA,htA⟩:∃tA,tA=x.trips.flatMap λt=>[t.name,t.route]:=⟨_,rfl⟩;obtain⟨hA,hhA⟩:∃hA,hA=x.hazards.flatMap λh=>[h.name,h.on]:=⟨_,rfl⟩;rw[<-hpA,<-hdA,<-hrA,<-htA,<-hhA]at hl q;simp only[List.length_append]at hl;repeat (refine W.seq ?_)
 refine W.region ?_;refine W.box rfl rfl rfl λH XH nH gH LH=> ?_;repeat refine W.g ?_
 refine W.call rfl rfl rfl (clone_str (s1.ext XH) (by omega) λh1 vo X1 O=> ?_);obtain⟨pv,nv,cv,xv,e⟩:=O.form;cases e;refine W.k2 1 16 λT=> ?_;repeat refine W.g ?_
 have X:=X1;refine W.k5 1 3 18 19 20 λT=> ?_
 refine W.loop (σ:=Nat) (λk tm h'=>Ext H h'/\tm.look 1= .ptr (some (h.next,0))/\tm.look 18=v2/\tm.look 19= .int .i64 (x.paths.length:Int)/\tm.look 20= .int .i64 (k:Int)/\k<=x.paths.length/\∃vo,tm.look 3=vo/\OwnR h' H.next 1 vo ((x.stops++(x.paths.take k).flatMap (λp=>[p.name,p.a,p.b])).map Flat.enc)) (λk=>x.paths.length-k) ?_ (s:=0)
  ⟨Ext.x,rfl,rfl,rfl,rfl,Nat.zero_le _,_,rfl,by rw[List.take_zero,List.flatMap_nil,List.append_nil];exact O⟩
 clear O;rintro k tm h' ⟨X,w1,w18,w19,w20,hk,vo,w3,O⟩;obtain⟨pv,nv,cv,xv,e⟩:=O.form;cases e;obtain⟨T,rfl⟩:=Tm.t5 w1 w3 w18 w19 w20;clear w1 w3 w18 w19 w20;by_cases c1:k<x.paths.length
 ·repeat refine W.g ?_
  refine W.iz λi_ o_ L_=> ?_;repeat (first|refine W.g ?_|refine W.m λh_ X_ n_ g_ L_=> ?_|refine W.n λh_ X_ n_ g_ S_=> ?_)
  have hfl:=flat_le (l:=x.paths) (f:=(λp=>[p.name,p.a,p.b])) (k:=k+1);rw[take_flat c1]at hfl;simp only[List.length_append,List.length_cons,List.length_nil]at hfl;rw[<-hpA]at hfl;have S_:SlG _ 1 _ (([x.paths[k].name,x.paths[k].a,x.paths[k].b]:List Str).map Flat.enc):=S_
  refine W.apR (H:=H) (z:=1) Ext.x (O.ext Ext.x) S_ rfl rfl rfl rfl rfl rfl rfl rfl rfl rfl rfl rfl (by
   simp only[List.length_map,List.length_append,List.length_cons,List.length_nil];show _*16<=_;omega) λv' h2 X2 O2=> ?_
  obtain⟨pv,nv,cv,xv,e⟩:=O2.form;cases e;repeat refine W.g ?_
  exact⟨k+1,lessN c1,X2,rfl,rfl,rfl,rfl,c1,_,rfl,by rw[take_flat c1,<-List.append_assoc,map_app];exact O2⟩
 repeat refine W.g ?_
 rw[show k=x.paths.length by omega,List.take_length]at O;refine W.k5 1 3 35 36 37 λT=> ?_;rw[<-hpA]at O
 refine W.loop (σ:=Nat) (λk tm h'=>Ext H h'/\tm.look 1= .ptr (some (h.next,0))/\tm.look 35=v3/\tm.look 36= .int .i64 (x.doors.length:Int)/\tm.look 37= .int .i64 (k:Int)/\k<=x.doors.length/\∃vo,tm.look 3=vo/\OwnR h' H.next 1 vo (((x.stops++pA)++(x.doors.take k).flatMap (λd=>[d.name,d.a,d.b])).map Flat.enc)) (λk=>x.doors.length-k) ?_ (s:=0)
  ⟨Ext.x,rfl,rfl,rfl,rfl,Nat.zero_le _,_,rfl,by rw[List.take_zero,List.flatMap_nil,List.append_nil];exact O⟩
 clear O;rintro k tm h' ⟨X,w1,w35,w36,w37,hk,vo,w3,O⟩;obtain⟨pv,nv,cv,xv,e⟩:=O.form;cases e;obtain⟨T,rfl⟩:=Tm.t5 w1 w3 w35 w36 w37;clear w1 w3 w35 w36 w37;by_cases c1:k<x.doors.length
 ·repeat refine W.g ?_
  refine W.iz λi_ o_ L_=> ?_;repeat (first|refine W.g ?_|refine W.m λh_ X_ n_ g_ L_=> ?_|refine W.n λh_ X_ n_ g_ S_=> ?_)
  have hfl:=flat_le (l:=x.doors) (f:=(λd=>[d.name,d.a,d.b])) (k:=k+1);rw[take_flat c1]at hfl;simp only[List.length_append,List.length_cons,List.length_nil]at hfl;rw[<-hdA]at hfl;have S_:SlG _ 1 _ (([x.doors[k].name,x.doors[k].a,x.doors[k].b]:List Str).map Flat.enc):=S_
  refine W.apR (H:=H) (z:=1) Ext.x (O.ext Ext.x) S_ rfl rfl rfl rfl rfl rfl rfl rfl rfl rfl rfl rfl (by
   simp only[List.length_map,List.length_append,List.length_cons,List.length_nil];show _*16<=_;omega) λv' h2 X2 O2=> ?_
  obtain⟨pv,nv,cv,xv,e⟩:=O2.form;cases e;repeat refine W.g ?_
  exact⟨k+1,lessN c1,X2,rfl,rfl,rfl,rfl,c1,_,rfl,by rw[take_flat c1,<-List.append_assoc,map_app];exact O2⟩
 repeat refine W.g ?_
 rw[show k=x.doors.length by omega,List.take_length]at O;rw[<-hdA]at O;refine W.k5 1 3 52 53 54 λT=> ?_
 refine W.loop (σ:=Nat) (λk tm h'=>Ext H h'/\tm.look 1= .ptr (some (h.next,0))/\tm.look 52=v4/\tm.look 53= .int .i64 (x.routes.length:Int)/\tm.look 54= .int .i64 (k:Int)/\k<=x.routes.length/\∃vo,tm.look 3=vo/\OwnR h' H.next 1 vo ((x.stops++pA++dA++(x.routes.take k).flatMap (λr=>r.name::r.stops)).map Flat.enc)) (λk=>x.routes.length-k) ?_ (s:=0)
  ⟨Ext.x,rfl,rfl,rfl,rfl,Nat.zero_le _,_,rfl,by rw[List.take_zero,List.flatMap_nil,List.append_nil];exact O⟩
 clear O;rintro k tm h' ⟨X,w1,w52,w53,w54,hk,vo,w3,O⟩;obtain⟨pv,nv,cv,xv,e⟩:=O.form;cases e;obtain⟨T,rfl⟩:=Tm.t5 w1 w3 w52 w53 w54;clear w1 w3 w52 w53 w54;by_cases c1:k<x.routes.length
 ·repeat refine W.g ?_
  refine W.ixR s4 c1 rfl rfl rfl rfl rfl rfl rfl λi_ o_ e L_ r_=> ?_;obtain⟨u1,u2,u3,rfl,t1,t2,t3⟩:=r_;have hfl:=flat_le (l:=x.routes) (f:=(λr=>r.name::r.stops)) (k:=k+1);rw[take_flat c1]at hfl;simp only[List.length_append,List.length_cons,List.length_nil]at hfl;rw[<-hrA]at hfl;repeat (first|refine W.g ?_|refine W.m λh_ X_ n_ g_ L_=> ?_)
  have dy:DY (λb=>b=h'.next) h_ [] []:=DY.start (λb hb=>by omega);try refine W.dv ?_
  refine W.ldY dy rfl L_ rfl rfl rfl rfl rfl rfl rfl λr1 ha dy sa La=> ?_;try refine W.dv ?_
  refine W.newY dy rfl rfl rfl rfl λr2 hb dy xb nb gb=> ?_;have gb:hb.get ha.next=some (.cells (Flat.enc x.routes[k].name) false):=gb;have na:ha.next=h_.next:=sa.next;have Xb:Ext h' hb:=(X_.trans sa.ext).trans xb;try refine W.dv ?_
  refine W.apY (H:=H) (z:=1) (l2:=[Flat.enc x.routes[k].name]) dy (X.trans Xb) (O.ext Xb) (SlG.one (by show ha.next<hb.next;omega) gb) (λb hb2=> ?_) rfl rfl rfl rfl rfl rfl rfl rfl rfl rfl rfl rfl rfl (by
   simp only[List.length_map,List.length_append,List.length_cons,List.length_nil];show _*16<=_;omega) λr3 v3 hc dy Xc bc nc O3 _=> ?_
  ·subst hb2
   rcases O.notIn (Nat.le_refl _)with e|⟨i,e,hi,_⟩
   ·rw[e]
    show h'.next∉[ha.next];simp only[List.mem_singleton];omega
   ·rw[e]
    show h'.next∉[i,ha.next];simp only[List.mem_cons,List.not_mem_nil,or_false];omega
  obtain⟨pv,nv,cv,xv,e⟩:=O3.form;cases e;try refine W.dv ?_
  refine W.ldY dy rfl ((La.ext xb).of_get (bc _ rfl) nc) rfl rfl rfl rfl rfl rfl rfl λr4 hd dy sd Ld=> ?_;try refine W.dv ?_
  have Xd:Ext H hd:=Xc.trans sd.ext
  refine W.apY (H:=H) (z:=1) (l2:=x.routes[k].stops.map Flat.enc) dy.drop Xd (O3.ext sd.ext) ((Sl.to_map Flat.iff t1).ext (XH.trans Xd)) (λb hb2=>hb2.elim) rfl rfl rfl rfl rfl rfl rfl rfl rfl rfl rfl rfl rfl (by
   simp only[List.length_map,List.length_append,List.length_cons,List.length_nil];show _*16<=_;omega) λr5 v5 he dy Xe be ne O5 _=> ?_
  obtain⟨pv,nv,cv,xv,e⟩:=O5.form;cases e;try refine W.dv ?_
  repeat refine W.g ?_
  exact⟨k+1,lessN c1,Xe,rfl,rfl,rfl,rfl,c1,_,rfl,by rw[take_flat c1,<-List.append_assoc,map_app,List.map_cons];rw[List.append_assoc]at O5;exact O5⟩
 repeat refine W.g ?_
 rw[show k=x.routes.length by omega,List.take_length,<-hrA]at O;refine W.k5 1 3 68 69 70 λT=> ?_
 refine W.loop (σ:=Nat) (λk tm h'=>Ext H h'/\tm.look 1= .ptr (some (h.next,0))/\tm.look 68=v5/\tm.look 69= .int .i64 (x.trips.length:Int)/\tm.look 70= .int .i64 (k:Int)/\k<=x.trips.length/\∃vo,tm.look 3=vo/\OwnR h' H.next 1 vo (((x.stops++pA++dA++rA)++(x.trips.take k).flatMap (λt=>[t.name,t.route])).map Flat.enc)) (λk=>x.trips.length-k) ?_ (s:=0)
  ⟨Ext.x,rfl,rfl,rfl,rfl,Nat.zero_le _,_,rfl,by rw[List.take_zero,List.flatMap_nil,List.append_nil];exact O⟩
 clear O;rintro k tm h' ⟨X,w1,w68,w69,w70,hk,vo,w3,O⟩;obtain⟨pv,nv,cv,xv,e⟩:=O.form;cases e;obtain⟨T,rfl⟩:=Tm.t5 w1 w3 w68 w69 w70;clear w1 w3 w68 w69 w70;by_cases c1:k<x.trips.length
 ·repeat refine W.g ?_
  refine W.iz λi_ o_ L_=> ?_;repeat (first|refine W.g ?_|refine W.m λh_ X_ n_ g_ L_=> ?_|refine W.n λh_ X_ n_ g_ S_=> ?_)
  have hfl:=flat_le (l:=x.trips) (f:=(λt=>[t.name,t.route])) (k:=k+1);rw[take_flat c1]at hfl;simp only[List.length_append,List.length_cons,List.length_nil]at hfl;rw[<-htA]at hfl;have S_:SlG _ 1 _ (([x.trips[k].name,x.trips[k].route]:List Str).map Flat.enc):=S_
  refine W.apR (H:=H) (z:=1) Ext.x (O.ext Ext.x) S_ rfl rfl rfl rfl rfl rfl rfl rfl rfl rfl rfl rfl (by
   simp only[List.length_map,List.length_append,List.length_cons,List.length_nil];show _*16<=_;omega) λv' h2 X2 O2=> ?_
  obtain⟨pv,nv,cv,xv,e⟩:=O2.form;cases e;repeat refine W.g ?_
  exact⟨k+1,lessN c1,X2,rfl,rfl,rfl,rfl,c1,_,rfl,by rw[take_flat c1,<-List.append_assoc,map_app];exact O2⟩
 repeat refine W.g ?_
 rw[show k=x.trips.length by omega,List.take_length]at O;refine W.k5 1 3 83 84 85 λT=> ?_;rw[<-htA]at O
 refine W.loop (σ:=Nat) (λk tm h'=>Ext H h'/\tm.look 1= .ptr (some (h.next,0))/\tm.look 83=v6/\tm.look 84= .int .i64 (x.hazards.length:Int)/\tm.look 85= .int .i64 (k:Int)/\k<=x.hazards.length/\∃vo,tm.look 3=vo/\OwnR h' H.next 1 vo (((x.stops++pA++dA++rA++tA)++(x.hazards.take k).flatMap (λh=>[h.name,h.on])).map Flat.enc)) (λk=>x.hazards.length-k) ?_ (s:=0)
  ⟨Ext.x,rfl,rfl,rfl,rfl,Nat.zero_le _,_,rfl,by rw[List.take_zero,List.flatMap_nil,List.append_nil];exact O⟩
 clear O;rintro k tm h' ⟨X,w1,w83,w84,w85,hk,vo,w3,O⟩;obtain⟨pv,nv,cv,xv,e⟩:=O.form;cases e;obtain⟨T,rfl⟩:=Tm.t5 w1 w3 w83 w84 w85;clear w1 w3 w83 w84 w85;by_cases c1:k<x.hazards.length
 ·repeat refine W.g ?_
  refine W.iz λi_ o_ L_=> ?_;repeat (first|refine W.g ?_|refine W.m λh_ X_ n_ g_ L_=> ?_|refine W.n λh_ X_ n_ g_ S_=> ?_)
  have hfl:=flat_le (l:=x.hazards) (f:=(λh=>[h.name,h.on])) (k:=k+1);rw[take_flat c1]at hfl;simp only[List.length_append,List.length_cons,List.length_nil]at hfl;rw[<-hhA]at hfl;have S_:SlG _ 1 _ (([x.hazards[k].name,x.hazards[k].on]:List Str).map Flat.enc):=S_
  refine W.apR (H:=H) (z:=1) Ext.x (O.ext Ext.x) S_ rfl rfl rfl rfl rfl rfl rfl rfl rfl rfl rfl rfl (by
   simp only[List.length_map,List.length_append,List.length_cons,List.length_nil];show _*16<=_;omega) λv' h2 X2 O2=> ?_
  obtain⟨pv,nv,cv,xv,e⟩:=O2.form;cases e;repeat refine W.g ?_
  exact⟨k+1,lessN c1,X2,rfl,rfl,rfl,rfl,c1,_,rfl,by rw[take_flat c1,<-List.append_assoc,map_app];exact O2⟩
 repeat refine W.g ?_
 rw[show k=x.hazards.length by omega,List.take_length]at O;rw[<-hhA]at O;exact q _ _ (XH.trans X) O.toSl
end
end Go.Proofs.YtmgpjfnlciapkaaGreatDoor
