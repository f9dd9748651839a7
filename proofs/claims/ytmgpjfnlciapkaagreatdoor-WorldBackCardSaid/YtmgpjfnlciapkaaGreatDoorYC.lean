/- Names of things: what the program's functions over texts come to. No condition but that the table of spaces lies where it does. -/
import Derived.Test.YtmgpjfnlciapkaaGreatDoorXG
import Derived.Test.YtmgpjfnlciapkaaGreatDoorYB
set_option linter.unusedVariables false
set_option linter.unusedSimpArgs false
namespace Go.Proofs.YtmgpjfnlciapkaaGreatDoor
open Go Go.CM Go.CM.Tt
noncomputable section
set_option maxHeartbeats 4000000
def RH (h:Heap):Prop:=rowsHold h rows=true/\∀r∈rows,r.1<h.next
theorem RH.ext {h h':Heap} (r:RH h) (x:Ext h h'):RH h':=⟨rowsHold_of (λq hq=>x.old _ (r.2 q hq)) r.1,λq hq=>Nat.lt_of_lt_of_le (r.2 q hq) x.next⟩
theorem class_w {h:Heap} {tm:Tm} {Q:R->Prop} (c:Int) (q:Q (.val (.int .i64 (classI c)) h)):W E1 (.call (.fn 141 [] []) [.int .u8 c]) tm h Q:=by
 refine W.fn (s:=fnOf Tryz.f141) rfl rfl rfl rfl ?_
 unfold classI at q
 by_cases c1:97<=c/\c<=122
 ·rw[if_pos c1]at q
  refine W.g ?_
  exact q
 rw[if_neg c1]at q
 by_cases c2:48<=c/\c<=57
 ·rw[if_pos c2]at q
  refine W.g ?_
  exact q
 rw[if_neg c2]at q
 by_cases c3:c=45
 ·rw[if_pos (.inl c3)]at q
  refine W.g ?_
  exact q
 by_cases c4:c=95
 ·rw[if_pos (.inr c4)]at q
  refine W.g ?_
  exact q
 rw[if_neg (λh=>h.elim c3 c4)]at q
 by_cases c5:97<=c
 ·refine W.g ?_
  exact q
 by_cases c6:48<=c
 ·refine W.g ?_
  exact q
 refine W.g ?_
 exact q
theorem index_w {h:Heap} {tm:Tm} {Q:R->Prop} {v:CV} {l:List Str} (s:Str) (sl:Sl h v l) (hm:l.length<=1099511627776)
  (q:Q (.val (.int .i64 (place l s)) h)):W E1 (.call (.fn 115 [] []) [v,.str s]) tm h Q:=by
 refine W.fn (s:=fnOf Tryz.f115) rfl rfl rfl rfl ?_
 refine W.g ?_
 refine W.loop (σ:=Nat) (λk tm h'=>h'=h/\tm.look 0=v/\tm.look 1= .str s/\tm.look 7= .int .i64 (l.length:Int)/\tm.look 8= .int .i64 (k:Int)/\k<=l.length/\∀j,j<k->∀a,l[j]? =some a->a≠s) (λk=>l.length-k) ?_ (s:=0)
  ⟨rfl,rfl,rfl,rfl,rfl,Nat.zero_le _,λj hj=>by omega⟩
 rintro k tm h' ⟨rfl,w0,w1,w7,w8,hk,hn⟩
 obtain⟨T,rfl⟩:=Tm.t4 w0 w1 w7 w8
 clear w0 w1 w7 w8
 by_cases c1:k<l.length
 ·refine W.g ?_
  refine W.iz λi_ o_ L_=> ?_
  by_cases c2:s=l[k]
  ·refine W.g ?_
   rw[place_some (l:=l) (s:=s) (k:=k) (by rw[List.getElem?_eq_getElem c1,<-c2]) hn]at q
   exact q
  ·refine W.g ?_
   refine⟨k+1,lessN c1,rfl,rfl,rfl,rfl,rfl,c1,λj hj a ha=> ?_⟩
   by_cases e:j=k
   ·subst e
    rw[List.getElem?_eq_getElem c1]at ha
    cases ha
    exact λh=>c2 h.symm
   ·exact hn j (by omega) a ha
 ·refine W.g ?_
  rw[place_none (l:=l) (s:=s) λj a ha=>hn j (by have:=(List.getElem?_eq_some_iff.1 ha).1;omega) a ha]at q
  exact q
theorem contains_w {h:Heap} {tm:Tm} {Q:R->Prop} {v:CV} {l:List Str} (s:Str) (sl:Sl h v l) (hm:l.length<=1099511627776)
  (q:∀b:Bool,(b=true↔s∈l)->Q (.val (.bool b) h)):W E1 (.call (.fn 161 [] []) [v,.str s]) tm h Q:=by
 refine W.fn (s:=fnOf Tryz.f161) rfl rfl rfl rfl ?_
 refine W.g ?_
 refine W.call rfl rfl rfl (index_w s sl hm ?_)
 by_cases c:0<=place l s
 ·refine W.g ?_
  exact q true (Iff.intro (λ_=>place_mem.1 c) (λ_=>rfl))
 ·refine W.g ?_
  exact q false (Iff.intro (λh=>by cases h) (λh=>absurd (place_mem.2 h) c))
theorem reserved_w {h:Heap} {tm:Tm} {Q:R->Prop} (s:Str) (rh:RH h)
  (q:∀h' (b:Bool),Ext h h'->(b=true↔s∈reserved)->Q (.val (.bool b) h')):W E1 (.call (.fn 142 [] []) [.str s]) tm h Q:=by
 refine W.fn (s:=fnOf Tryz.f142) rfl rfl rfl rfl ?_
 refine W.g ?_
 refine W.call rfl rfl rfl (W.knownN (v:= .slice (some (h.next,0)) 15 15 0) (news:=[reserved.map λs=> .str s]) rfl rh.1 ?_)
 have X:Ext h (kAdd h [reserved.map λs=> .str s]):=kAdd_ext _ _
 have sl:Sl (kAdd h [reserved.map λs=> .str s]) (.slice (some (h.next,0)) 15 15 0) reserved:=by
  refine Sl.of_map Flat.iff (.inr (.inr ⟨h.next,0,15,0,_,false,rfl,Nat.lt_succ_self _,new_same _ _,λj e he=> ?_,Nat.le_refl _,.inl rfl⟩))
  have hz:∀e∈reserved.map (Flat.enc:Str->List CV),e.length=1:=λe he=>by
   obtain⟨c,_,rfl⟩:=List.mem_map.1 he
   rfl
  refine⟨hz e (List.mem_of_getElem? he),?_⟩
  exact flat_cut hz he
 generalize kAdd h [reserved.map λs=> .str s]=H at X sl
 refine W.g ?_
 refine W.call rfl rfl rfl (contains_w s sl (by decide) λb hb=> ?_)
 refine W.g ?_
 exact q H b X hb
theorem odd_w {h:Heap} {tm:Tm} {Q:R->Prop} (c:Int) (q:Q (.val (.bool (decide (c≠0))) h)):W E1 (.call (.fn 144 [] []) [.int .i64 c]) tm h Q:=by
 refine W.fn (s:=fnOf Tryz.f144) rfl rfl rfl rfl ?_
 refine W.g ?_
 exact q
theorem run_w {h:Heap} {tm:Tm} {Q:R->Prop} (s:Str) (hm:s.length<=24)
  (q:∀n:Nat,n<=s.length->(∀j c,j<n->s[j]? =some c->classB c.toNat≠0)->(∀c,s[n]? =some c->classB c.toNat=0)->Q (.val (.int .i64 (n:Int)) h)):W E1 (.call (.fn 143 [] []) [.str s,.fn 144 [] []]) tm h Q:=by
 refine W.fn (s:=fnOf Tryz.f143) rfl rfl rfl rfl ?_
 refine W.g ?_
 refine W.loop (σ:=Nat) (λk tm h'=>h'=h/\tm.look 0= .str s/\tm.look 1= .fn 144 [] []/\tm.look 5= .int .i64 (k:Int)/\k<=s.length/\∀j c,j<k->s[j]? =some c->classB c.toNat≠0) (λk=>s.length-k) ?_ (s:=0)
  ⟨rfl,rfl,rfl,rfl,Nat.zero_le _,λj c hj=>by omega⟩
 rintro k tm h' ⟨rfl,w0,w1,w5,hk,hn⟩
 obtain⟨T,rfl⟩:=Tm.t3 w0 w1 w5
 clear w0 w1 w5
 by_cases c1:k<s.length
 ·refine W.g ?_
  refine W.ixs (j:=k) (List.getElem?_eq_getElem c1) rfl rfl rfl rfl rfl rfl rfl ?_
  skip
  refine W.call rfl rfl rfl (class_w _ ?_)
  refine W.g ?_
  refine W.call rfl rfl rfl (odd_w _ ?_)
  rw[classI_nat]
  by_cases c2:classB s[k].toNat≠0
  ·refine W.g ?_
   refine⟨k+1,lessN c1,rfl,rfl,rfl,rfl,c1,λj c hj hc=> ?_⟩
   by_cases e:j=k
   ·subst e
    rw[List.getElem?_eq_getElem c1]at hc
    cases hc
    exact c2
   ·exact hn j c (by omega) hc
  ·refine W.g ?_
   refine q k (by omega) hn λc hc=> ?_
   rw[List.getElem?_eq_getElem c1]at hc
   cases hc
   exact Classical.byContradiction c2
 ·refine W.g ?_
  exact q k hk hn λc hc=>by
   have:=(List.getElem?_eq_some_iff.1 hc).1
   omega
theorem name_w {h:Heap} {tm:Tm} {Q:R->Prop} (s:Str) (rh:RH h)
  (q:∀h' (b:Bool),Ext h h'->(b=true↔NameOk s)->Q (.val (.bool b) h')):W E1 (.call (.fn 76 [] []) [.str s]) tm h Q:=by
 refine W.fn (s:=fnOf Tryz.f76) rfl rfl rfl rfl ?_
 by_cases c0:s=[]
 ·refine W.g ?_
  exact q h false (Ext.refl _) (Iff.intro (λh=>by cases h) (λh=>absurd c0 h.1))
 by_cases c1:24<s.length
 ·refine W.g ?_
  exact q h false (Ext.refl _) (Iff.intro (λh=>by cases h) (λh=>by have:=h.2.1;omega))
 have hpos:0<s.length:=List.length_pos_iff.2 c0
 refine W.g ?_
 refine W.ixs (j:=0) (List.getElem?_eq_getElem hpos) rfl rfl rfl rfl rfl rfl rfl ?_
 skip
 refine W.call rfl rfl rfl (class_w _ ?_)
 rw[classI_nat]
 by_cases c2:classB s[0].toNat≠1
 ·refine W.g ?_
  exact q h false (Ext.refl _) (Iff.intro (λh=>by cases h) (λh=>absurd (h.2.2.1 _ (List.getElem?_eq_getElem hpos)) c2))
 refine W.g ?_
 refine W.call rfl rfl rfl (reserved_w s rh λH b X hb=> ?_)
 cases b
 ·refine W.g ?_
  refine W.call rfl rfl rfl (run_w s (by omega) λn hn h1 h2=> ?_)
  by_cases c3:(n:Int)=(s.length:Int)
  ·refine W.g ?_
   refine q H true X (Iff.intro (λ_=>⟨c0,by omega,λc hc=> ?_,λhr=>(by cases hb.2 hr),λc hc=> ?_⟩) (λ_=>rfl))
   ·rw[List.getElem?_eq_getElem hpos]at hc
    cases hc
    exact Classical.byContradiction c2
   ·obtain⟨j,hj⟩:=List.getElem?_of_mem hc
    have:=(List.getElem?_eq_some_iff.1 hj).1
    exact h1 j c (by omega) hj
  ·refine W.g ?_
   refine q H false X (Iff.intro (λh=>by cases h) (λh=> ?_))
   have hlt:n<s.length:=by omega
   exact absurd (h2 _ (List.getElem?_eq_getElem hlt)) (h.2.2.2.2 _ (List.getElem_mem hlt))
 ·refine W.g ?_
  exact q H false X (Iff.intro (λh=>by cases h) (λh=>absurd (hb.1 rfl) h.2.2.2.1))
end
end Go.Proofs.YtmgpjfnlciapkaaGreatDoor

namespace Go.Proofs.YtmgpjfnlciapkaaGreatDoor
open Go Go.CM Go.CM.Tt
noncomputable section
set_option maxHeartbeats 8000000
theorem within_w {h:Heap} {tm:Tm} {Q:R->Prop} (lo x hi:Int) (q:Q (.val (.bool (decide (lo<=x/\x<=hi))) h)):W E1 (.call (.fn 147 [] []) [.int .i64 lo,.int .i64 x,.int .i64 hi]) tm h Q:=by
 refine W.fn (s:=fnOf Tryz.f147) rfl rfl rfl rfl ?_
 by_cases c:lo<=x
 ·by_cases d:x<=hi
  ·rw[decide_eq_true (⟨c,d⟩:lo<=x/\x<=hi)]at q
   refine W.g ?_
   exact q
  ·rw[decide_eq_false (λh=>d h.2:¬(lo<=x/\x<=hi))]at q
   refine W.g ?_
   exact q
 ·rw[decide_eq_false (λh=>c h.1:¬(lo<=x/\x<=hi))]at q
  refine W.g ?_
  exact q
theorem tick_w {h:Heap} {tm:Tm} {Q:R->Prop} (t:Int) (q:∀e:Int,(e=0↔TickOk t)->Q (.val (.int .i64 e) h)):W E1 (.call (.fn 80 [] []) [.int .i64 t]) tm h Q:=by
 refine W.fn (s:=fnOf Tryz.f80) rfl rfl rfl rfl ?_
 refine W.g ?_
 refine W.call rfl rfl rfl (within_w 0 t 1099511627776 ?_)
 by_cases c:0<=t/\t<=1099511627776
 ·refine W.g ?_
  exact q 0 (Iff.intro (λ_=>c) (λ_=>rfl))
 ·refine W.g ?_
  exact q 9 (Iff.intro (λh=>by cases h) (λh=>absurd h c))
theorem idxF_str {h:Heap} {tm:Tm} {Q:R->Prop} {v:CV} {l:List Str} (f:Nat) (first caps:List CV) (P:Str->Prop) (sl:Sl h v l) (hm:l.length<=1099511627776)
  (hf:∀d,d∈l->∀(tm:Tm) (h':Heap) (Q:R->Prop),Ext h h'->(∀h2 (b:Bool),Ext h' h2->(b=true↔P d)->Q (.val (.bool b) h2))->W E1 (.call (.fn f first caps) [.str d]) tm h' Q)
  (q:∀h' (r:Int),Ext h h'->(0<=r↔∃d,d∈l/\P d)->Q (.val (.int .i64 r) h')):W E1 (.call (.fn 140 [] []) [v,.fn f first caps]) tm h Q:=by
 refine W.fn (s:=fnOf Tryz.f140) rfl rfl rfl rfl ?_
 refine W.g ?_
 refine W.loop (σ:=Nat) (λk tm h'=>Ext h h'/\tm.look 0=v/\tm.look 1= .fn f first caps/\tm.look 7= .int .i64 (l.length:Int)/\tm.look 8= .int .i64 (k:Int)/\k<=l.length/\∀j,j<k->∀a,l[j]? =some a->¬P a) (λk=>l.length-k) ?_ (s:=0)
  ⟨Ext.refl _,rfl,rfl,rfl,rfl,Nat.zero_le _,λj hj=>by omega⟩
 rintro k tm h' ⟨X,w0,w1,w7,w8,hk,hn⟩
 obtain⟨T,rfl⟩:=Tm.t4 w0 w1 w7 w8
 clear w0 w1 w7 w8
 by_cases c1:k<l.length
 ·refine W.g ?_
  refine W.iz λi_ o_ L_=> ?_
  refine W.g ?_
  refine W.call rfl rfl rfl (hf l[k] (List.getElem_mem c1) _ _ _ X λh2 b X2 hb=> ?_)
  cases b
  ·refine W.g ?_
   refine⟨k+1,lessN c1,X.trans X2,rfl,rfl,rfl,rfl,c1,λj hj a ha hp=> ?_⟩
   by_cases e:j=k
   ·subst e
    rw[List.getElem?_eq_getElem c1]at ha
    cases ha
    cases hb.2 hp
   ·exact hn j (by omega) a ha hp
  ·refine W.g ?_
   exact q _ _ (X.trans X2) (Iff.intro (λ_=>⟨l[k],List.getElem_mem c1,hb.1 rfl⟩) (λ_=>by omega))
 ·refine W.g ?_
  refine q _ _ X (Iff.intro (λh=>by omega) (λh=> ?_))
  obtain⟨d,hd,hp⟩:=h
  obtain⟨j,hj⟩:=List.getElem?_of_mem hd
  exact absurd hp (hn j (by have:=(List.getElem?_eq_some_iff.1 hj).1;omega) d hj)
theorem conF_str {h:Heap} {tm:Tm} {Q:R->Prop} {v:CV} {l:List Str} (f:Nat) (first caps:List CV) (P:Str->Prop) (sl:Sl h v l) (hm:l.length<=1099511627776)
  (hf:∀d,d∈l->∀(tm:Tm) (h':Heap) (Q:R->Prop),Ext h h'->(∀h2 (b:Bool),Ext h' h2->(b=true↔P d)->Q (.val (.bool b) h2))->W E1 (.call (.fn f first caps) [.str d]) tm h' Q)
  (q:∀h' (b:Bool),Ext h h'->(b=true↔∃d,d∈l/\P d)->Q (.val (.bool b) h')):W E1 (.call (.fn 73 [] []) [v,.fn f first caps]) tm h Q:=by
 refine W.fn (s:=fnOf Tryz.f73) rfl rfl rfl rfl ?_
 refine W.g ?_
 refine W.call rfl rfl rfl (idxF_str f first caps P sl hm hf λh' r X hr=> ?_)
 by_cases c:0<=r
 ·refine W.g ?_
  exact q h' true X (Iff.intro (λ_=>hr.1 c) (λ_=>rfl))
 ·refine W.g ?_
  exact q h' false X (Iff.intro (λh=>by cases h) (λh=>absurd (hr.2 h) c))
theorem idxF_int {h:Heap} {tm:Tm} {Q:R->Prop} {v:CV} {l:List Int} (f:Nat) (first caps:List CV) (P:Int->Prop) (sl:Sl h v l) (hm:l.length<=1099511627776)
  (hf:∀d,d∈l->∀(tm:Tm) (h':Heap) (Q:R->Prop),Ext h h'->(∀h2 (b:Bool),Ext h' h2->(b=true↔P d)->Q (.val (.bool b) h2))->W E1 (.call (.fn f first caps) [.int .i64 d]) tm h' Q)
  (q:∀h' (r:Int),Ext h h'->(0<=r↔∃d,d∈l/\P d)->Q (.val (.int .i64 r) h')):W E1 (.call (.fn 145 [] []) [v,.fn f first caps]) tm h Q:=by
 refine W.fn (s:=fnOf Tryz.f145) rfl rfl rfl rfl ?_
 refine W.g ?_
 refine W.loop (σ:=Nat) (λk tm h'=>Ext h h'/\tm.look 0=v/\tm.look 1= .fn f first caps/\tm.look 7= .int .i64 (l.length:Int)/\tm.look 8= .int .i64 (k:Int)/\k<=l.length/\∀j,j<k->∀a,l[j]? =some a->¬P a) (λk=>l.length-k) ?_ (s:=0)
  ⟨Ext.refl _,rfl,rfl,rfl,rfl,Nat.zero_le _,λj hj=>by omega⟩
 rintro k tm h' ⟨X,w0,w1,w7,w8,hk,hn⟩
 obtain⟨T,rfl⟩:=Tm.t4 w0 w1 w7 w8
 clear w0 w1 w7 w8
 by_cases c1:k<l.length
 ·refine W.g ?_
  refine W.iz λi_ o_ L_=> ?_
  refine W.g ?_
  refine W.call rfl rfl rfl (hf l[k] (List.getElem_mem c1) _ _ _ X λh2 b X2 hb=> ?_)
  cases b
  ·refine W.g ?_
   refine⟨k+1,lessN c1,X.trans X2,rfl,rfl,rfl,rfl,c1,λj hj a ha hp=> ?_⟩
   by_cases e:j=k
   ·subst e
    rw[List.getElem?_eq_getElem c1]at ha
    cases ha
    cases hb.2 hp
   ·exact hn j (by omega) a ha hp
  ·refine W.g ?_
   exact q _ _ (X.trans X2) (Iff.intro (λ_=>⟨l[k],List.getElem_mem c1,hb.1 rfl⟩) (λ_=>by omega))
 ·refine W.g ?_
  refine q _ _ X (Iff.intro (λh=>by omega) (λh=> ?_))
  obtain⟨d,hd,hp⟩:=h
  obtain⟨j,hj⟩:=List.getElem?_of_mem hd
  exact absurd hp (hn j (by have:=(List.getElem?_eq_some_iff.1 hj).1;omega) d hj)
theorem conF_int {h:Heap} {tm:Tm} {Q:R->Prop} {v:CV} {l:List Int} (f:Nat) (first caps:List CV) (P:Int->Prop) (sl:Sl h v l) (hm:l.length<=1099511627776)
  (hf:∀d,d∈l->∀(tm:Tm) (h':Heap) (Q:R->Prop),Ext h h'->(∀h2 (b:Bool),Ext h' h2->(b=true↔P d)->Q (.val (.bool b) h2))->W E1 (.call (.fn f first caps) [.int .i64 d]) tm h' Q)
  (q:∀h' (b:Bool),Ext h h'->(b=true↔∃d,d∈l/\P d)->Q (.val (.bool b) h')):W E1 (.call (.fn 77 [] []) [v,.fn f first caps]) tm h Q:=by
 refine W.fn (s:=fnOf Tryz.f77) rfl rfl rfl rfl ?_
 refine W.g ?_
 refine W.call rfl rfl rfl (idxF_int f first caps P sl hm hf λh' r X hr=> ?_)
 by_cases c:0<=r
 ·refine W.g ?_
  exact q h' true X (Iff.intro (λ_=>hr.1 c) (λ_=>rfl))
 ·refine W.g ?_
  exact q h' false X (Iff.intro (λh=>by cases h) (λh=>absurd (hr.2 h) c))
theorem idxF_route {h:Heap} {tm:Tm} {Q:R->Prop} {v:CV} {l:List RouteS} (f:Nat) (first caps:List CV) (P:RouteS->Prop) (sl:Sl h v l) (hm:l.length<=1099511627776)
  (hf:∀d,d∈l->∀e,Rp.R h e d->∀(tm:Tm) (h':Heap) (Q:R->Prop),Ext h h'->(∀h2 (b:Bool),Ext h' h2->(b=true↔P d)->Q (.val (.bool b) h2))->W E1 (.call (.fn f first caps) [.agg e]) tm h' Q)
  (q:∀h' (r:Int),Ext h h'->(0<=r↔∃d,d∈l/\P d)->Q (.val (.int .i64 r) h')):W E1 (.call (.fn 148 [] []) [v,.fn f first caps]) tm h Q:=by
 refine W.fn (s:=fnOf Tryz.f148) rfl rfl rfl rfl ?_
 refine W.g ?_
 refine W.loop (σ:=Nat) (λk tm h'=>Ext h h'/\tm.look 0=v/\tm.look 1= .fn f first caps/\tm.look 7= .int .i64 (l.length:Int)/\tm.look 8= .int .i64 (k:Int)/\k<=l.length/\∀j,j<k->∀a,l[j]? =some a->¬P a) (λk=>l.length-k) ?_ (s:=0)
  ⟨Ext.refl _,rfl,rfl,rfl,rfl,Nat.zero_le _,λj hj=>by omega⟩
 rintro k tm h' ⟨X,w0,w1,w7,w8,hk,hn⟩
 obtain⟨T,rfl⟩:=Tm.t4 w0 w1 w7 w8
 clear w0 w1 w7 w8
 by_cases c1:k<l.length
 ·refine W.g ?_
  refine W.ixR (by assumption) c1 rfl rfl rfl rfl rfl rfl rfl λi_ o_ e L_ r_=> ?_
  skip
  have hlen:=Rp.len r_
  refine W.g ?_
  refine W.call rfl rfl rfl (hf l[k] (List.getElem_mem c1) e r_ _ _ _ X λh2 b X2 hb=> ?_)
  cases b
  ·refine W.g ?_
   refine⟨k+1,lessN c1,X.trans X2,rfl,rfl,rfl,rfl,c1,λj hj a ha hp=> ?_⟩
   by_cases e:j=k
   ·subst e
    rw[List.getElem?_eq_getElem c1]at ha
    cases ha
    cases hb.2 hp
   ·exact hn j (by omega) a ha hp
  ·refine W.g ?_
   exact q _ _ (X.trans X2) (Iff.intro (λ_=>⟨l[k],List.getElem_mem c1,hb.1 rfl⟩) (λ_=>by omega))
 ·refine W.g ?_
  refine q _ _ X (Iff.intro (λh=>by omega) (λh=> ?_))
  obtain⟨d,hd,hp⟩:=h
  obtain⟨j,hj⟩:=List.getElem?_of_mem hd
  exact absurd hp (hn j (by have:=(List.getElem?_eq_some_iff.1 hj).1;omega) d hj)
theorem conF_route {h:Heap} {tm:Tm} {Q:R->Prop} {v:CV} {l:List RouteS} (f:Nat) (first caps:List CV) (P:RouteS->Prop) (sl:Sl h v l) (hm:l.length<=1099511627776)
  (hf:∀d,d∈l->∀e,Rp.R h e d->∀(tm:Tm) (h':Heap) (Q:R->Prop),Ext h h'->(∀h2 (b:Bool),Ext h' h2->(b=true↔P d)->Q (.val (.bool b) h2))->W E1 (.call (.fn f first caps) [.agg e]) tm h' Q)
  (q:∀h' (b:Bool),Ext h h'->(b=true↔∃d,d∈l/\P d)->Q (.val (.bool b) h')):W E1 (.call (.fn 81 [] []) [v,.fn f first caps]) tm h Q:=by
 refine W.fn (s:=fnOf Tryz.f81) rfl rfl rfl rfl ?_
 refine W.g ?_
 refine W.call rfl rfl rfl (idxF_route f first caps P sl hm hf λh' r X hr=> ?_)
 by_cases c:0<=r
 ·refine W.g ?_
  exact q h' true X (Iff.intro (λ_=>hr.1 c) (λ_=>rfl))
 ·refine W.g ?_
  exact q h' false X (Iff.intro (λh=>by cases h) (λh=>absurd (hr.2 h) c))
end
end Go.Proofs.YtmgpjfnlciapkaaGreatDoor
