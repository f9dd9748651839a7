/- The windows of times, one by one. No condition. -/
import Derived.Test.YtnjkaahbhebaeaaGreatDoorXU
import Derived.Test.YtnjkaahbhebaeaaGreatDoorYM
import Derived.Test.YtnjkaahbhebaeaaGreatDoorXNa
import Derived.Test.YtnjkaahbhebaeaaGreatDoorYG
import Derived.Test.YtnjkaahbhebaeaaGreatDoorYA
set_option linter.unusedVariables false
set_option linter.unusedSimpArgs false
set_option maxRecDepth 100000
namespace Go.CM
noncomputable section
theorem op_mul {α:Type} {a b:Int} {h:α} (hl: -9223372036854775808<=a*b) (hu:a*b<=9223372036854775807):some (CV.int .i64 (IntKind.i64.wrap (a*b)),h)=some (CV.int .i64 (a*b),h):=by
 rw[show IntKind.i64.wrap (a*b)=a*b from IntWalk.i64_in _ (by omega)]
def winE (w:Int×Int):List CV:=[.int .i64 w.1,.int .i64 w.2]
instance:Rp (Int×Int):=⟨2,λ_ cs w=>cs=winE w,λ_ h=>h,λh=>by rw[h];rfl⟩
instance:Flat (Int×Int):=⟨winE,λ_ _ _=>Iff.rfl⟩
end
end Go.CM
namespace Go.Proofs.YtnjkaahbhebaeaaGreatDoor
open Go Go.CM Go.CM.Tt
noncomputable section
set_option maxHeartbeats 8000000
def winAt (t:Times) (k:Nat):Int×Int:=(t.frm+(k:Int)*t.evr,t.frm+(k:Int)*t.evr+t.len)
theorem each_w {H h:Heap} {tm:Tm} {Q:R->Prop} {b3 bt:Nat} {n:Nat} {t:Times} (y:Nat) (I:Nat->Heap->Prop) (L3:LocE H b3 0 [.int .i64 (n:Int)]) (Lt:LocE H bt 0 t.enc) (hn:n<=256) (b1:0<=t.frm/\t.frm<=1099511627776) (b2:0<=t.evr/\t.evr<=1099511627776) (b3':0<=t.len/\t.len<=1099511627776)
  (h0:I 0 h) (hX:∀k h',I k h'->Ext H h')
  (hy:∀k:Nat,k<n->∀(h':Heap) (tm:Tm) (Q:R->Prop),I k h'->(∀h2,I (k+1) h2->Q (.val (.bool true) h2))->W E1 (.call (.yield y) [.agg (winE (winAt t k))]) tm h' Q)
  (q:∀h',I n h'->Q (.val (.tup []) h')):W E1 (.call (.fn 227 [] [.ptr (some (b3,0)),.ptr (some (bt,0))]) [.yield y]) tm h Q:=by
 refine W.fn (s:=fnOf Tryz.f227) rfl rfl rfl rfl ?_;have X0:=hX 0 h h0;repeat refine W.g ?_
 refine W.loop (σ:=Nat) (λk tm h'=>I k h'/\tm.look 0= .yield y/\tm.look 1= .ptr (some (b3,0))/\tm.look 2= .ptr (some (bt,0))/\tm.look 6= .int .i64 (n:Int)/\tm.look 7= .int .i64 (k:Int)/\k<=n) (λk=>n-k) ?_ (s:=0)
  ⟨h0,rfl,rfl,rfl,rfl,rfl,Nat.zero_le _⟩
 rintro k tm h' ⟨hI,w0,w1,w2,w6,w7,hk⟩;obtain⟨T,rfl⟩:=Tm.t5 w0 w1 w2 w6 w7;clear w0 w1 w2 w6 w7;have X1:=hX k h' hI;by_cases c1:k<n
 ·have m0:0<=(k:Int)*t.evr:=Int.mul_nonneg (by omega) b2.1
  have m3:(k:Int)*t.evr<=256*1099511627776:=Int.mul_le_mul (by omega) b2.2 b2.1 (by omega);have m1: -9223372036854775808<=(k:Int)*t.evr:=by omega
  have m2:(k:Int)*t.evr<=9223372036854775807:=by omega
  repeat refine W.g ?_
  refine W.call rfl rfl rfl (hy k c1 h' _ _ hI λh2 hI2=> ?_);repeat refine W.g ?_
  exact⟨k+1,lessN c1,hI2,rfl,rfl,rfl,rfl,rfl,c1⟩
 ·repeat refine W.g ?_
  rw[show k=n by omega]at hI;exact q _ hI
end
end Go.Proofs.YtnjkaahbhebaeaaGreatDoor

namespace Go.Proofs.YtnjkaahbhebaeaaGreatDoor
open Go Go.CM Go.CM.Tt
noncomputable section
set_option maxHeartbeats 8000000
theorem rtick_w {h:Heap} {tm:Tm} {Q:R->Prop} (t:Int) (q0:TickOk t->Q (.val (.int .i64 0) h)) (q9:¬TickOk t->Q (.val (.int .i64 9) h)):W E1 (.call (.fn 77 [] []) [.int .i64 t]) tm h Q:=by
 refine W.fn (s:=fnOf Tryz.f77) rfl rfl rfl rfl ?_;by_cases c1:t<0
 ·repeat refine W.g ?_
  exact q9 λg=>by have:=g.1;omega
 by_cases c2:1099511627776<t
 ·repeat refine W.g ?_
  exact q9 λg=>by have:=g.2;omega
 repeat refine W.g ?_
 exact q0 ⟨by omega,by omega⟩
open Classical in
theorem rcount_w {h:Heap} {tm:Tm} {Q:R->Prop} (f e u:Int) (q:Q (.val (.int .i64 (if TickOk f/\TickOk e/\TickOk u then countT f e u else 0)) h)):W E1 (.call (.fn 78 [] []) [.int .i64 f,.int .i64 e,.int .i64 u]) tm h Q:=by
 refine W.fn (s:=fnOf Tryz.f78) rfl rfl rfl rfl ?_;repeat refine W.g ?_
 refine W.call rfl rfl rfl (rtick_w f (λhf=> ?_) (λhf=> ?_))
 rotate_left
 ·rw[if_neg λg=>hf g.1]at q
  repeat refine W.g ?_
  exact q
 repeat refine W.g ?_
 refine W.call rfl rfl rfl (rtick_w e (λhe=> ?_) (λhe=> ?_))
 rotate_left
 ·rw[if_neg λg=>he g.2.1]at q
  repeat refine W.g ?_
  exact q
 repeat refine W.g ?_
 refine W.call rfl rfl rfl (rtick_w u (λhu=> ?_) (λhu=> ?_))
 rotate_left
 ·rw[if_neg λg=>hu g.2.2]at q
  repeat refine W.g ?_
  exact q
 rw[if_pos ⟨hf,he,hu⟩]at q;unfold countT at q;have f0:=hf.1;have f1:=hf.2;have e0:=he.1;have u1:=hu.2;by_cases c1:u<f
 ·rw[if_pos c1]at q
  repeat refine W.g ?_
  exact q
 rw[if_neg c1]at q;by_cases c2:e=0
 ·rw[if_pos c2]at q
  repeat refine W.g ?_
  exact q
 rw[if_neg c2]at q;have d0:0<=(u-f)/e:=Int.ediv_nonneg (by omega) (by omega);have d1:(u-f)/e<=u-f:=Int.ediv_le_self _ (by omega);repeat refine W.g ?_
 refine W.quo (a:=u-f) (b:=e) (by omega) (by omega) (by omega) rfl rfl rfl rfl ?_;repeat refine W.g ?_
 exact q
theorem letter_w {h:Heap} {tm:Tm} {Q:R->Prop} (c:Int) (q:∀b:Bool,(b=true↔97<=c/\c<=122)->Q (.val (.bool b) h)):W E1 (.call (.fn 297 [] []) [.int .u8 c]) tm h Q:=by
 refine W.fn (s:=fnOf Tryz.f297) rfl rfl rfl rfl ?_;by_cases c1:97<=c
 ·by_cases c2:c<=122
  ·repeat refine W.g ?_
   exact q true (Iff.intro (λ_=>⟨c1,c2⟩) (λ_=>rfl))
  ·repeat refine W.g ?_
   exact q false (Iff.intro (λh=>by cases h) (λh=>absurd h.2 c2))
 ·repeat refine W.g ?_
  exact q false (Iff.intro (λh=>by cases h) (λh=>absurd h.1 c1))
theorem digit_w {h:Heap} {tm:Tm} {Q:R->Prop} (c:Int) (q:∀b:Bool,(b=true↔48<=c/\c<=57)->Q (.val (.bool b) h)):W E1 (.call (.fn 313 [] []) [.int .u8 c]) tm h Q:=by
 refine W.fn (s:=fnOf Tryz.f313) rfl rfl rfl rfl ?_;by_cases c1:48<=c
 ·by_cases c2:c<=57
  ·repeat refine W.g ?_
   exact q true (Iff.intro (λ_=>⟨c1,c2⟩) (λ_=>rfl))
  ·repeat refine W.g ?_
   exact q false (Iff.intro (λh=>by cases h) (λh=>absurd h.2 c2))
 ·repeat refine W.g ?_
  exact q false (Iff.intro (λh=>by cases h) (λh=>absurd h.1 c1))
theorem more_w {h:Heap} {tm:Tm} {Q:R->Prop} (c:Int) (q:∀b:Bool,(b=true↔classI c≠0)->Q (.val (.bool b) h)):W E1 (.call (.fn 298 [] []) [.int .u8 c]) tm h Q:=by
 refine W.fn (s:=fnOf Tryz.f298) rfl rfl rfl rfl ?_;unfold classI at q;repeat refine W.g ?_
 refine W.call rfl rfl rfl (letter_w c λb hb=> ?_);cases b
 rotate_left
 ·repeat refine W.g ?_
  exact q true (Iff.intro (λ_=>by rw[if_pos (hb.1 rfl)];decide) (λ_=>rfl))
 have n1:¬(97<=c/\c<=122):=λg=>by cases hb.2 g
 rw[if_neg n1]at q;repeat refine W.g ?_
 refine W.call rfl rfl rfl (digit_w c λb hb=> ?_);cases b
 rotate_left
 ·repeat refine W.g ?_
  exact q true (Iff.intro (λ_=>by rw[if_pos (hb.1 rfl)];decide) (λ_=>rfl))
 have n2:¬(48<=c/\c<=57):=λg=>by cases hb.2 g
 rw[if_neg n2]at q;by_cases c1:c=45
 ·repeat refine W.g ?_
  exact q true (Iff.intro (λ_=>by rw[if_pos (.inl c1)];decide) (λ_=>rfl))
 by_cases c2:c=95
 ·repeat refine W.g ?_
  exact q true (Iff.intro (λ_=>by rw[if_pos (.inr c2)];decide) (λ_=>rfl))
 repeat refine W.g ?_
 exact q false (Iff.intro (λh=>by cases h) (λh=>absurd (if_neg (λg=>g.elim c1 c2)) h))
def WordOk (s:Str):Prop:=s≠[]/\s.length<=24/\(∀c,s[0]? =some c->classB c.toNat=1)/\∀c∈s,classB c.toNat≠0
theorem nameOk_word {s:Str}:NameOk s↔WordOk s/\s∉reserved:=Iff.intro (λ⟨a,b,c,d,e⟩=>⟨⟨a,b,c,e⟩,d⟩) (λ⟨⟨a,b,c,e⟩,d⟩=>⟨a,b,c,d,e⟩)
theorem class_one {c:Nat}:classB c=1↔(97<=(c:Int)/\(c:Int)<=122):=by
 unfold classB;by_cases c1:97<=c/\c<=122
 ·rw[if_pos c1];exact Iff.intro (λ_=>by omega) (λ_=>rfl)
 ·rw[if_neg c1]
  refine Iff.intro (λh=> ?_) (λh=>by omega);split at h
  ·cases h
  ·split at h<;>cases h
theorem word_w {h:Heap} {tm:Tm} {Q:R->Prop} (s:Str) (q:∀b:Bool,(b=true↔WordOk s)->Q (.val (.bool b) h)):W E1 (.call (.fn 241 [] []) [.str s]) tm h Q:=by
 refine W.fn (s:=fnOf Tryz.f241) rfl rfl rfl rfl ?_;by_cases c0:s=[]
 ·subst c0
  repeat refine W.g ?_
  exact q false (Iff.intro (λh=>by cases h) (λh=>absurd rfl h.1))
 have hpos:0<s.length:=List.length_pos_iff.2 c0;by_cases c1:24<s.length
 ·repeat refine W.g ?_
  exact q false (Iff.intro (λh=>by cases h) (λh=>by have:=h.2.1;omega))
 repeat refine W.g ?_
 refine W.ixs (j:=0) (List.getElem?_eq_getElem hpos) rfl rfl rfl rfl rfl rfl rfl ?_;refine W.call rfl rfl rfl (letter_w _ λb hb=> ?_);rw[<-class_one]at hb;cases b
 ·repeat refine W.g ?_
  exact q false (Iff.intro (λh=>by cases h) (λh=>by cases hb.2 (h.2.2.1 _ (List.getElem?_eq_getElem hpos))))
 repeat refine W.g ?_
 refine W.loop (σ:=Nat) (λk tm h'=>h'=h/\tm.look 0= .str s/\tm.look 3= .int .i64 (k:Int)/\k<=s.length/\∀j c,j<k->s[j]? =some c->classB c.toNat≠0) (λk=>s.length-k) ?_ (s:=0)
  ⟨rfl,rfl,rfl,Nat.zero_le _,λj c hj=>by omega⟩
 rintro k tm h' ⟨rfl,w0,w3,hk,hn⟩;obtain⟨T,rfl⟩:=Tm.t2 w0 w3;clear w0 w3;by_cases c2:k<s.length
 ·repeat refine W.g ?_
  refine W.ixs (j:=k) (List.getElem?_eq_getElem c2) rfl rfl rfl rfl rfl rfl rfl ?_;refine W.call rfl rfl rfl (more_w _ λb hb=> ?_);rw[classI_nat]at hb;cases b
  ·repeat refine W.g ?_
   exact q false (Iff.intro (λh=>by cases h) (λh=>by cases hb.2 (h.2.2.2 _ (List.getElem_mem c2))))
  ·repeat refine W.g ?_
   refine⟨k+1,lessN c2,rfl,rfl,rfl,c2,λj c hj hc=> ?_⟩;by_cases e:j=k
   ·subst e
    rw[List.getElem?_eq_getElem c2]at hc;cases hc;exact hb.1 rfl
   ·exact hn j c (by omega) hc
 ·repeat refine W.g ?_
  exact q true (Iff.intro (λ_=>⟨c0,by omega,λc hc=>by rw[List.getElem?_eq_getElem hpos]at hc;cases hc;exact hb.1 rfl,λc hc=>by
   obtain⟨j,hj⟩:=List.getElem?_of_mem hc;have:=(List.getElem?_eq_some_iff.1 hj).1;exact hn j c (by omega) hj⟩) (λ_=>rfl))
theorem rreserved_w {h:Heap} {tm:Tm} {Q:R->Prop} (s:Str) (q:∀h' (b:Bool),Ext h h'->(b=true↔s∈reserved)->Q (.val (.bool b) h')):W E1 (.call (.fn 242 [] []) [.str s]) tm h Q:=by
 refine W.fn (s:=fnOf Tryz.f242) rfl rfl rfl rfl ?_;repeat (first|refine W.g ?_|refine W.n λh_ X_ n_ g_ S_=> ?_)
 have S_:SlG h_ 1 (.slice (some (h.next,0)) 15 15 0) (reserved.map Flat.enc):=S_;have sl:Sl h_ (.slice (some (h.next,0)) 15 15 0) reserved:=Sl.of_map Flat.iff S_;have hl:reserved.length=15:=rfl;generalize hr:reserved=l at sl q hl;clear S_ g_ n_
 refine W.loop (σ:=Nat) (λk tm h'=>h'=h_/\tm.look 0= .str s/\tm.look 3= .slice (some (h.next,0)) 15 15 0/\tm.look 4= .int .i64 (k:Int)/\k<=l.length/\∀j,j<k->∀a,l[j]? =some a->a≠s) (λk=>l.length-k) ?_ (s:=0)
  ⟨rfl,rfl,rfl,rfl,Nat.zero_le _,λj hj=>by omega⟩
 rintro k tm h' ⟨rfl,w0,w3,w4,hk,hn⟩;obtain⟨T,rfl⟩:=Tm.t3 w0 w3 w4;clear w0 w3 w4;by_cases c1:k<l.length
 ·repeat refine W.g ?_
  refine W.iz λi_ o_ L_=> ?_;by_cases c2:l[k]=s
  ·repeat refine W.g ?_
   exact q _ true X_ (Iff.intro (λ_=>by rw[<-c2];exact List.getElem_mem c1) (λ_=>rfl))
  ·repeat refine W.g ?_
   refine⟨k+1,lessN c1,rfl,rfl,rfl,rfl,c1,λj hj a ha=> ?_⟩;by_cases e:j=k
   ·subst e
    rw[List.getElem?_eq_getElem c1]at ha;cases ha;exact c2
   ·exact hn j (by omega) a ha
 ·repeat refine W.g ?_
  exact q _ false X_ (Iff.intro (λh=>by cases h) (λh=>by
   obtain⟨j,hj⟩:=List.getElem?_of_mem h;have:=(List.getElem?_eq_some_iff.1 hj).1;exact absurd rfl (hn j (by omega) _ hj)))
theorem rname_w {h:Heap} {tm:Tm} {Q:R->Prop} (s:Str) (q:∀h' (b:Bool),Ext h h'->(b=true↔NameOk s)->Q (.val (.bool b) h')):W E1 (.call (.fn 198 [] []) [.str s]) tm h Q:=by
 refine W.fn (s:=fnOf Tryz.f198) rfl rfl rfl rfl ?_;rw[nameOk_word]at q;repeat refine W.g ?_
 refine W.call rfl rfl rfl (word_w s λb hb=> ?_);cases b
 ·repeat refine W.g ?_
  exact q _ false (Ext.refl _) (Iff.intro (λh=>by cases h) (λh=>by cases hb.2 h.1))
 repeat refine W.g ?_
 refine W.call rfl rfl rfl (rreserved_w s λH c X hc=> ?_);cases c
 ·repeat refine W.g ?_
  exact q _ true X (Iff.intro (λ_=>⟨hb.1 rfl,λg=>by cases hc.2 g⟩) (λ_=>rfl))
 ·repeat refine W.g ?_
  exact q _ false X (Iff.intro (λh=>by cases h) (λh=>absurd (hc.1 rfl) h.2))
theorem rplace_w {h:Heap} {tm:Tm} {Q:R->Prop} {v:CV} {l:List Str} (s:Str) (sl:Sl h v l) (hm:l.length<=1099511627776)
  (q:Q (.val (.int .i64 (place l s)) h)):W E1 (.call (.fn 201 [] []) [v,.str s]) tm h Q:=by
 refine W.fn (s:=fnOf Tryz.f201) rfl rfl rfl rfl ?_;repeat refine W.g ?_
 refine W.loop (σ:=Nat) (λk tm h'=>h'=h/\tm.look 0=v/\tm.look 1= .str s/\tm.look 5= .int .i64 (k:Int)/\k<=l.length/\∀j,j<k->∀a,l[j]? =some a->a≠s) (λk=>l.length-k) ?_ (s:=0)
  ⟨rfl,rfl,rfl,rfl,Nat.zero_le _,λj hj=>by omega⟩
 rintro k tm h' ⟨rfl,w0,w1,w5,hk,hn⟩;obtain⟨T,rfl⟩:=Tm.t3 w0 w1 w5;clear w0 w1 w5;by_cases c1:k<l.length
 ·repeat refine W.g ?_
  refine W.iz λi_ o_ L_=> ?_;by_cases c2:l[k]=s
  ·repeat refine W.g ?_
   rw[place_some (l:=l) (s:=s) (k:=k) (by rw[List.getElem?_eq_getElem c1,<-c2]) hn]at q;exact q
  ·repeat refine W.g ?_
   refine⟨k+1,lessN c1,rfl,rfl,rfl,rfl,c1,λj hj a ha=> ?_⟩;by_cases e:j=k
   ·subst e
    rw[List.getElem?_eq_getElem c1]at ha;cases ha;exact c2
   ·exact hn j (by omega) a ha
 ·repeat refine W.g ?_
  rw[place_none (l:=l) (s:=s) λj a ha=>hn j (by have:=(List.getElem?_eq_some_iff.1 ha).1;omega) a ha]at q;exact q
theorem rin_w {h:Heap} {tm:Tm} {Q:R->Prop} {v:CV} {l:List Str} (sl:Sl h v l) (n:Int) (q:∀b:Bool,(b=true↔inL n l)->Q (.val (.bool b) h)):W E1 (.call (.fn 136 [] []) [.int .i64 n,v]) tm h Q:=by
 refine W.fn (s:=fnOf Tryz.f136) rfl rfl rfl rfl ?_;by_cases c1:0<=n
 ·by_cases c2:n<(l.length:Int)
  ·repeat refine W.g ?_
   exact q true (Iff.intro (λ_=>⟨c1,c2⟩) (λ_=>rfl))
  ·repeat refine W.g ?_
   exact q false (Iff.intro (λh=>by cases h) (λh=>absurd h.2 c2))
 ·repeat refine W.g ?_
  exact q false (Iff.intro (λh=>by cases h) (λh=>absurd h.1 c1))
theorem rwrong_w {h:Heap} {tm:Tm} {Q:R->Prop} (e k i:Int) (q:∀h',Ext h h'->Q (.val (.agg [.int .i64 e,.int .i64 k,.int .i64 i]) h')):W E1 (.call (.fn 62 [] []) [.int .i64 e,.int .i64 k,.int .i64 i]) tm h Q:=by
 refine W.fn (s:=fnOf Tryz.f62) rfl rfl rfl rfl ?_;repeat (first|refine W.g ?_|refine W.m λh_ X_ n_ g_ L_=> ?_)
 have g0:h_.get h.next=some (.cells [.int .i64 0,.int .i64 0,.int .i64 0] false):=g_;refine W.stn (vs:=[.int .i64 e,.int .i64 k,.int .i64 i]) (cs':=[.int .i64 e,.int .i64 k,.int .i64 i]) rfl rfl rfl rfl rfl rfl g0 rfl λM nM gM kM=> ?_;repeat refine W.g ?_
 refine BodyQ.cell1 rfl rfl gM rfl rfl ?_;exact q M (Ext.store X_ nM kM (by omega) (by omega))
theorem rway_w {h:Heap} {tm:Tm} {Q:R->Prop} (a b n:Int) (q:Q (.val (.int .i64 (wayErr a b n)) h)):W E1 (.call (.fn 202 [] []) [.int .i64 a,.int .i64 b,.int .i64 n]) tm h Q:=by
 refine W.fn (s:=fnOf Tryz.f202) rfl rfl rfl rfl ?_;unfold wayErr at q;by_cases c1:a<0
 ·rw[if_pos (.inl c1)]at q
  repeat refine W.g ?_
  exact q
 by_cases c2:b<0
 ·rw[if_pos (.inr c2)]at q
  repeat refine W.g ?_
  exact q
 rw[if_neg (λg=>g.elim c1 c2)]at q;by_cases c3:a=b
 ·rw[if_pos (.inl c3)]at q
  repeat refine W.g ?_
  exact q
 by_cases c4:n<1
 ·rw[if_pos (.inr c4)]at q
  repeat refine W.g ?_
  exact q
 rw[if_neg (λg=>g.elim c3 c4)]at q;repeat refine W.g ?_
 exact q
end
end Go.Proofs.YtnjkaahbhebaeaaGreatDoor
