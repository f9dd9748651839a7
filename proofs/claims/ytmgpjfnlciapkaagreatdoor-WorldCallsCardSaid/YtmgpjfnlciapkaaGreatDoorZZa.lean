/- Each thing is found by its name, in plain words. No condition, no program. -/
import Derived.Test.YtmgpjfnlciapkaaGreatDoorZYa
import Derived.Test.YtmgpjfnlciapkaaGreatDoorZYf
import Derived.Test.YtmgpjfnlciapkaaGreatDoorXU
import Derived.Test.YtmgpjfnlciapkaaGreatDoorYG
import Derived.Test.YtmgpjfnlciapkaaGreatDoorYM
import Derived.Test.YtmgpjfnlciapkaaGreatDoorYW
import Derived.Test.YtmgpjfnlciapkaaGreatDoorXZ
set_option linter.unusedVariables false
set_option linter.unusedSimpArgs false
namespace Go.CM.Tt
theorem SheetD.make_none {x:SheetD} (h:x.make.2.err≠0):x.make.1=WorldD.none:=by
 unfold SheetD.make at h ⊢;by_cases c:x.err=0
 ·by_cases d:x.num.wrong.err=0
  ·rw[if_pos c,if_pos d]at h;exact absurd rfl h
  ·rw[if_pos c,if_neg d]
 ·rw[if_neg c]
end Go.CM.Tt

namespace Go.Proofs.YtmgpjfnlciapkaaGreatDoor
open Go Go.CM Go.CM.Tt
noncomputable section
set_option maxHeartbeats 8000000
theorem rtick_w {h:Heap} {tm:Tm} {Q:R->Prop} (t:Int) (q0:TickOk t->Q (.val (.int .i64 0) h)) (q9:¬TickOk t->Q (.val (.int .i64 9) h)):W E1 (.call (.fn 119 [] []) [.int .i64 t]) tm h Q:=by
 refine W.fn (s:=fnOf Tryz.f119) rfl rfl rfl rfl ?_;by_cases c1:t<0
 ·repeat refine W.g ?_
  exact q9 λg=>by have:=g.1;omega
 by_cases c2:1099511627776<t
 ·repeat refine W.g ?_
  exact q9 λg=>by have:=g.2;omega
 repeat refine W.g ?_
 exact q0 ⟨by omega,by omega⟩
open Classical in
theorem rcount_w {h:Heap} {tm:Tm} {Q:R->Prop} (f e u:Int) (q:Q (.val (.int .i64 (if TickOk f/\TickOk e/\TickOk u then countT f e u else 0)) h)):W E1 (.call (.fn 168 [] []) [.int .i64 f,.int .i64 e,.int .i64 u]) tm h Q:=by
 refine W.fn (s:=fnOf Tryz.f168) rfl rfl rfl rfl ?_;repeat refine W.g ?_
 refine W.call rfl rfl rfl (rtick_w f (λhf=> ?_) (λhf=> ?_))
 rotate_left
 ·rw[if_neg λg=>hf g.1]at q
  repeat refine W.g ?_
  exact q
 repeat refine W.g ?_
 refine W.call rfl rfl rfl (rtick_w e (λhe=> ?_) (λhe=> ?_))
 rotate_left
 ·rw[if_neg λg=>he g.2.1]at q
  repeat refine W.g ?_
  exact q
 repeat refine W.g ?_
 refine W.call rfl rfl rfl (rtick_w u (λhu=> ?_) (λhu=> ?_))
 rotate_left
 ·rw[if_neg λg=>hu g.2.2]at q
  repeat refine W.g ?_
  exact q
 rw[if_pos ⟨hf,he,hu⟩]at q;unfold countT at q;have f0:=hf.1;have f1:=hf.2;have e0:=he.1;have u1:=hu.2;by_cases c1:u<f
 ·rw[if_pos c1]at q
  repeat refine W.g ?_
  exact q
 rw[if_neg c1]at q;by_cases c2:e=0
 ·rw[if_pos c2]at q
  repeat refine W.g ?_
  exact q
 rw[if_neg c2]at q;have d0:0<=(u-f)/e:=Int.ediv_nonneg (by omega) (by omega);have d1:(u-f)/e<=u-f:=Int.ediv_le_self _ (by omega);repeat refine W.g ?_
 refine W.quo (a:=u-f) (b:=e) (by omega) (by omega) (by omega) rfl rfl rfl rfl ?_;repeat refine W.g ?_
 exact q
theorem letter_w {h:Heap} {tm:Tm} {Q:R->Prop} (c:Int) (q:∀b:Bool,(b=true↔97<=c/\c<=122)->Q (.val (.bool b) h)):W E1 (.call (.fn 165 [] []) [.int .u8 c]) tm h Q:=by
 refine W.fn (s:=fnOf Tryz.f165) rfl rfl rfl rfl ?_;by_cases c1:97<=c
 ·by_cases c2:c<=122
  ·repeat refine W.g ?_
   exact q true (Iff.intro (λ_=>⟨c1,c2⟩) (λ_=>rfl))
  ·repeat refine W.g ?_
   exact q false (Iff.intro (λh=>by cases h) (λh=>absurd h.2 c2))
 ·repeat refine W.g ?_
  exact q false (Iff.intro (λh=>by cases h) (λh=>absurd h.1 c1))
theorem digit_w {h:Heap} {tm:Tm} {Q:R->Prop} (c:Int) (q:∀b:Bool,(b=true↔48<=c/\c<=57)->Q (.val (.bool b) h)):W E1 (.call (.fn 176 [] []) [.int .u8 c]) tm h Q:=by
 refine W.fn (s:=fnOf Tryz.f176) rfl rfl rfl rfl ?_;by_cases c1:48<=c
 ·by_cases c2:c<=57
  ·repeat refine W.g ?_
   exact q true (Iff.intro (λ_=>⟨c1,c2⟩) (λ_=>rfl))
  ·repeat refine W.g ?_
   exact q false (Iff.intro (λh=>by cases h) (λh=>absurd h.2 c2))
 ·repeat refine W.g ?_
  exact q false (Iff.intro (λh=>by cases h) (λh=>absurd h.1 c1))
theorem more_w {h:Heap} {tm:Tm} {Q:R->Prop} (c:Int) (q:∀b:Bool,(b=true↔classI c≠0)->Q (.val (.bool b) h)):W E1 (.call (.fn 166 [] []) [.int .u8 c]) tm h Q:=by
 refine W.fn (s:=fnOf Tryz.f166) rfl rfl rfl rfl ?_;unfold classI at q;repeat refine W.g ?_
 refine W.call rfl rfl rfl (letter_w c λb hb=> ?_);cases b
 rotate_left
 ·repeat refine W.g ?_
  exact q true (Iff.intro (λ_=>by rw[if_pos (hb.1 rfl)];decide) (λ_=>rfl))
 have n1:¬(97<=c/\c<=122):=λg=>by cases hb.2 g
 rw[if_neg n1]at q;repeat refine W.g ?_
 refine W.call rfl rfl rfl (digit_w c λb hb=> ?_);cases b
 rotate_left
 ·repeat refine W.g ?_
  exact q true (Iff.intro (λ_=>by rw[if_pos (hb.1 rfl)];decide) (λ_=>rfl))
 have n2:¬(48<=c/\c<=57):=λg=>by cases hb.2 g
 rw[if_neg n2]at q;by_cases c1:c=45
 ·repeat refine W.g ?_
  exact q true (Iff.intro (λ_=>by rw[if_pos (.inl c1)];decide) (λ_=>rfl))
 by_cases c2:c=95
 ·repeat refine W.g ?_
  exact q true (Iff.intro (λ_=>by rw[if_pos (.inr c2)];decide) (λ_=>rfl))
 repeat refine W.g ?_
 exact q false (Iff.intro (λh=>by cases h) (λh=>absurd (if_neg (λg=>g.elim c1 c2)) h))
def WordOk (s:Str):Prop:=s≠[]/\s.length<=24/\(∀c,s[0]? =some c->classB c.toNat=1)/\∀c∈s,classB c.toNat≠0
theorem nameOk_word {s:Str}:NameOk s↔WordOk s/\s∉reserved:=Iff.intro (λ⟨a,b,c,d,e⟩=>⟨⟨a,b,c,e⟩,d⟩) (λ⟨⟨a,b,c,e⟩,d⟩=>⟨a,b,c,d,e⟩)
theorem class_one {c:Nat}:classB c=1↔(97<=(c:Int)/\(c:Int)<=122):=by
 unfold classB;by_cases c1:97<=c/\c<=122
 ·rw[if_pos c1];exact Iff.intro (λ_=>by omega) (λ_=>rfl)
 ·rw[if_neg c1]
  refine Iff.intro (λh=> ?_) (λh=>by omega);split at h
  ·cases h
  ·split at h<;>cases h
theorem word_w {h:Heap} {tm:Tm} {Q:R->Prop} (s:Str) (q:∀b:Bool,(b=true↔WordOk s)->Q (.val (.bool b) h)):W E1 (.call (.fn 152 [] []) [.str s]) tm h Q:=by
 refine W.fn (s:=fnOf Tryz.f152) rfl rfl rfl rfl ?_;by_cases c0:s=[]
 ·subst c0
  repeat refine W.g ?_
  exact q false (Iff.intro (λh=>by cases h) (λh=>absurd rfl h.1))
 have hpos:0<s.length:=List.length_pos_iff.2 c0;by_cases c1:24<s.length
 ·repeat refine W.g ?_
  exact q false (Iff.intro (λh=>by cases h) (λh=>by have:=h.2.1;omega))
 repeat refine W.g ?_
 refine W.ixs (j:=0) (List.getElem?_eq_getElem hpos) rfl rfl rfl rfl rfl rfl rfl ?_;refine W.call rfl rfl rfl (letter_w _ λb hb=> ?_);rw[<-class_one]at hb;cases b
 ·repeat refine W.g ?_
  exact q false (Iff.intro (λh=>by cases h) (λh=>by cases hb.2 (h.2.2.1 _ (List.getElem?_eq_getElem hpos))))
 repeat refine W.g ?_
 refine W.loop (σ:=Nat) (λk tm h'=>h'=h/\tm.look 0= .str s/\tm.look 3= .int .i64 (k:Int)/\k<=s.length/\∀j c,j<k->s[j]? =some c->classB c.toNat≠0) (λk=>s.length-k) ?_ (s:=0)
  ⟨rfl,rfl,rfl,Nat.zero_le _,λj c hj=>by omega⟩
 rintro k tm h' ⟨rfl,w0,w3,hk,hn⟩;obtain⟨T,rfl⟩:=Tm.t2 w0 w3;clear w0 w3;by_cases c2:k<s.length
 ·repeat refine W.g ?_
  refine W.ixs (j:=k) (List.getElem?_eq_getElem c2) rfl rfl rfl rfl rfl rfl rfl ?_;refine W.call rfl rfl rfl (more_w _ λb hb=> ?_);rw[classI_nat]at hb;cases b
  ·repeat refine W.g ?_
   exact q false (Iff.intro (λh=>by cases h) (λh=>by cases hb.2 (h.2.2.2 _ (List.getElem_mem c2))))
  ·repeat refine W.g ?_
   refine⟨k+1,lessN c2,rfl,rfl,rfl,c2,λj c hj hc=> ?_⟩;by_cases e:j=k
   ·subst e
    rw[List.getElem?_eq_getElem c2]at hc;cases hc;exact hb.1 rfl
   ·exact hn j c (by omega) hc
 ·repeat refine W.g ?_
  exact q true (Iff.intro (λ_=>⟨c0,by omega,λc hc=>by rw[List.getElem?_eq_getElem hpos]at hc;cases hc;exact hb.1 rfl,λc hc=>by
   obtain⟨j,hj⟩:=List.getElem?_of_mem hc;have:=(List.getElem?_eq_some_iff.1 hj).1;exact hn j c (by omega) hj⟩) (λ_=>rfl))
theorem rreserved_w {h:Heap} {tm:Tm} {Q:R->Prop} (s:Str) (q:∀h' (b:Bool),Ext h h'->(b=true↔s∈reserved)->Q (.val (.bool b) h')):W E1 (.call (.fn 153 [] []) [.str s]) tm h Q:=by
 refine W.fn (s:=fnOf Tryz.f153) rfl rfl rfl rfl ?_;repeat (first|refine W.g ?_|refine W.n λh_ X_ n_ g_ S_=> ?_)
 have S_:SlG h_ 1 (.slice (some (h.next,0)) 15 15 0) (reserved.map Flat.enc):=S_;have sl:Sl h_ (.slice (some (h.next,0)) 15 15 0) reserved:=Sl.of_map Flat.iff S_;have hl:reserved.length=15:=rfl;generalize hr:reserved=l at sl q hl;clear S_ g_ n_
 refine W.loop (σ:=Nat) (λk tm h'=>h'=h_/\tm.look 0= .str s/\tm.look 3= .slice (some (h.next,0)) 15 15 0/\tm.look 4= .int .i64 (k:Int)/\k<=l.length/\∀j,j<k->∀a,l[j]? =some a->a≠s) (λk=>l.length-k) ?_ (s:=0)
  ⟨rfl,rfl,rfl,rfl,Nat.zero_le _,λj hj=>by omega⟩
 rintro k tm h' ⟨rfl,w0,w3,w4,hk,hn⟩;obtain⟨T,rfl⟩:=Tm.t3 w0 w3 w4;clear w0 w3 w4;by_cases c1:k<l.length
 ·repeat refine W.g ?_
  refine W.iz λi_ o_ L_=> ?_;by_cases c2:l[k]=s
  ·repeat refine W.g ?_
   exact q _ true X_ (Iff.intro (λ_=>by rw[<-c2];exact List.getElem_mem c1) (λ_=>rfl))
  ·repeat refine W.g ?_
   refine⟨k+1,lessN c1,rfl,rfl,rfl,rfl,c1,λj hj a ha=> ?_⟩;by_cases e:j=k
   ·subst e
    rw[List.getElem?_eq_getElem c1]at ha;cases ha;exact c2
   ·exact hn j (by omega) a ha
 ·repeat refine W.g ?_
  exact q _ false X_ (Iff.intro (λh=>by cases h) (λh=>by
   obtain⟨j,hj⟩:=List.getElem?_of_mem h;have:=(List.getElem?_eq_some_iff.1 hj).1;exact absurd rfl (hn j (by omega) _ hj)))
theorem rname_w {h:Heap} {tm:Tm} {Q:R->Prop} (s:Str) (q:∀h' (b:Bool),Ext h h'->(b=true↔NameOk s)->Q (.val (.bool b) h')):W E1 (.call (.fn 117 [] []) [.str s]) tm h Q:=by
 refine W.fn (s:=fnOf Tryz.f117) rfl rfl rfl rfl ?_;rw[nameOk_word]at q;repeat refine W.g ?_
 refine W.call rfl rfl rfl (word_w s λb hb=> ?_);cases b
 ·repeat refine W.g ?_
  exact q _ false (Ext.refl _) (Iff.intro (λh=>by cases h) (λh=>by cases hb.2 h.1))
 repeat refine W.g ?_
 refine W.call rfl rfl rfl (rreserved_w s λH c X hc=> ?_);cases c
 ·repeat refine W.g ?_
  exact q _ true X (Iff.intro (λ_=>⟨hb.1 rfl,λg=>by cases hc.2 g⟩) (λ_=>rfl))
 ·repeat refine W.g ?_
  exact q _ false X (Iff.intro (λh=>by cases h) (λh=>absurd (hc.1 rfl) h.2))
theorem rplace_w {h:Heap} {tm:Tm} {Q:R->Prop} {v:CV} {l:List Str} (s:Str) (sl:Sl h v l) (hm:l.length<=1099511627776)
  (q:Q (.val (.int .i64 (place l s)) h)):W E1 (.call (.fn 56 [] []) [v,.str s]) tm h Q:=by
 refine W.fn (s:=fnOf Tryz.f56) rfl rfl rfl rfl ?_;repeat refine W.g ?_
 refine W.loop (σ:=Nat) (λk tm h'=>h'=h/\tm.look 0=v/\tm.look 1= .str s/\tm.look 5= .int .i64 (k:Int)/\k<=l.length/\∀j,j<k->∀a,l[j]? =some a->a≠s) (λk=>l.length-k) ?_ (s:=0)
  ⟨rfl,rfl,rfl,rfl,Nat.zero_le _,λj hj=>by omega⟩
 rintro k tm h' ⟨rfl,w0,w1,w5,hk,hn⟩;obtain⟨T,rfl⟩:=Tm.t3 w0 w1 w5;clear w0 w1 w5;by_cases c1:k<l.length
 ·repeat refine W.g ?_
  refine W.iz λi_ o_ L_=> ?_;by_cases c2:l[k]=s
  ·repeat refine W.g ?_
   rw[place_some (l:=l) (s:=s) (k:=k) (by rw[List.getElem?_eq_getElem c1,<-c2]) hn]at q;exact q
  ·repeat refine W.g ?_
   refine⟨k+1,lessN c1,rfl,rfl,rfl,rfl,c1,λj hj a ha=> ?_⟩;by_cases e:j=k
   ·subst e
    rw[List.getElem?_eq_getElem c1]at ha;cases ha;exact c2
   ·exact hn j (by omega) a ha
 ·repeat refine W.g ?_
  rw[place_none (l:=l) (s:=s) λj a ha=>hn j (by have:=(List.getElem?_eq_some_iff.1 ha).1;omega) a ha]at q;exact q
theorem rin_w {h:Heap} {tm:Tm} {Q:R->Prop} {v:CV} {l:List Str} (sl:Sl h v l) (n:Int) (q:∀b:Bool,(b=true↔inL n l)->Q (.val (.bool b) h)):W E1 (.call (.fn 139 [] []) [.int .i64 n,v]) tm h Q:=by
 refine W.fn (s:=fnOf Tryz.f139) rfl rfl rfl rfl ?_;by_cases c1:0<=n
 ·by_cases c2:n<(l.length:Int)
  ·repeat refine W.g ?_
   exact q true (Iff.intro (λ_=>⟨c1,c2⟩) (λ_=>rfl))
  ·repeat refine W.g ?_
   exact q false (Iff.intro (λh=>by cases h) (λh=>absurd h.2 c2))
 ·repeat refine W.g ?_
  exact q false (Iff.intro (λh=>by cases h) (λh=>absurd h.1 c1))
theorem rwrong_w {h:Heap} {tm:Tm} {Q:R->Prop} (e k i:Int) (q:∀h',Ext h h'->Q (.val (.agg [.int .i64 e,.int .i64 k,.int .i64 i]) h')):W E1 (.call (.fn 49 [] []) [.int .i64 e,.int .i64 k,.int .i64 i]) tm h Q:=by
 refine W.fn (s:=fnOf Tryz.f49) rfl rfl rfl rfl ?_;repeat (first|refine W.g ?_|refine W.m λh_ X_ n_ g_ L_=> ?_)
 have g0:h_.get h.next=some (.cells [.int .i64 0,.int .i64 0,.int .i64 0] false):=g_;refine W.stn (vs:=[.int .i64 e,.int .i64 k,.int .i64 i]) (cs':=[.int .i64 e,.int .i64 k,.int .i64 i]) rfl rfl rfl rfl rfl rfl g0 rfl λM nM gM kM=> ?_;repeat refine W.g ?_
 refine BodyQ.cell1 rfl rfl gM rfl rfl ?_;exact q M (Ext.store X_ nM kM (by omega) (by omega))
theorem rway_w {h:Heap} {tm:Tm} {Q:R->Prop} (a b n:Int) (q:Q (.val (.int .i64 (wayErr a b n)) h)):W E1 (.call (.fn 121 [] []) [.int .i64 a,.int .i64 b,.int .i64 n]) tm h Q:=by
 refine W.fn (s:=fnOf Tryz.f121) rfl rfl rfl rfl ?_;unfold wayErr at q;by_cases c1:a<0
 ·rw[if_pos (.inl c1)]at q
  repeat refine W.g ?_
  exact q
 by_cases c2:b<0
 ·rw[if_pos (.inr c2)]at q
  repeat refine W.g ?_
  exact q
 rw[if_neg (λg=>g.elim c1 c2)]at q;by_cases c3:a=b
 ·rw[if_pos (.inl c3)]at q
  repeat refine W.g ?_
  exact q
 by_cases c4:n<1
 ·rw[if_pos (.inr c4)]at q
  repeat refine W.g ?_
  exact q
 rw[if_neg (λg=>g.elim c3 c4)]at q;repeat refine W.g ?_
 exact q
end
end Go.Proofs.YtmgpjfnlciapkaaGreatDoor

noncomputable section
namespace Go.CM
section
variable {h h' H:Heap} {lo z:Nat} {v:CV} {l:List (List CV)} {E:Env} {tm:Tm} {Q:R->Prop} {all rest:List Oper} {o:Oper} {bs:List Bits} {recs:List Rec} {i:Nat} {idx nr:List Nat}
theorem OwnR.at (s:OwnR h lo z v l) {j:Nat} (hj:j<l.length):∃i c x,v= .slice (some (i,0)) l.length c x/\lo<=i/\i<h.next/\idOf v=[i]/\h.get i=some (.cells l.flatten false)/\(∀e∈l,e.length=z):=by
 rcases s with⟨rfl,_⟩|⟨i,x,ro,rfl,h1,h2,h3,h4,h5⟩
 ·simp at hj
 ·have hl:l≠[]:=λe=>by rw[e]at hj;simp at hj
  have hro:ro=false:=by
   rcases h5 with⟨_,h5|h5⟩|⟨_,h5,_⟩
   ·exact absurd h5 hl
   ·exact h5
   ·exact h5
  subst hro;exact⟨i,_,_,rfl,h1,h2,rfl,h3,h4⟩
theorem OwnR.set (s:OwnR h lo z v l) {j i:Nat} {e:List CV} (hj:j<l.length) (he:e.length=z) (hn:h'.next=h.next) (hi:idOf v=[i]) (hg:h'.get i=some (.cells (l.set j e).flatten false)):OwnR h' lo z v (l.set j e):=by
 rcases s with⟨rfl,_⟩|⟨i',x,ro,rfl,h1,h2,h3,h4,h5⟩
 ·simp at hj
 ·have:i'=i:=by simpa[idOf]using hi
  subst this;refine .inr ⟨i',x,false,by rw[List.length_set],h1,by omega,hg,λa ha=> ?_,?_⟩
  ·rcases List.mem_or_eq_of_mem_set ha with ha|rfl
   ·exact h4 a ha
   ·exact he
  ·rcases h5 with⟨h5,_⟩|⟨h5,_,_⟩
   ·exact .inl ⟨h5,.inr rfl⟩
   ·exact .inr ⟨h5,rfl,λe0=>by
     have:=congrArg List.length e0;rw[List.length_set]at this;simp at this;rw[this]at hj;simp at hj⟩
end
end Go.CM

namespace Go.Proofs.YtmgpjfnlciapkaaGreatDoor
open Go Go.CM Go.CM.Tt
noncomputable section
set_option maxHeartbeats 8000000
theorem rtimesCheck_w {h:Heap} {tm:Tm} {Q:R->Prop} (t:Times) (q:∀h' (e:Int),Ext h h'->(t.ok->e=0)->(¬t.ok->e=2)->Q (.val (.int .i64 e) h')):W E1 (.call (.fn 167 [] []) [.agg t.enc]) tm h Q:=by
 refine W.fn (s:=fnOf Tryz.f167) rfl rfl rfl rfl ?_;repeat (first|refine W.g ?_|refine W.m λh_ X_ n_ g_ L_=> ?_)
 refine W.call rfl rfl rfl (rtick_w t.frm (λha=> ?_) λhn=> ?_)
 rotate_left
 ·repeat refine W.g ?_
  exact q _ 2 X_ (λg=>absurd g.1 hn) (λ_=>rfl)
 by_cases c1:t.len<1
 ·repeat refine W.g ?_
  exact q _ 2 X_ (λg=>by have:=g.2.1;omega) (λ_=>rfl)
 by_cases c2:1099511627776<t.len
 ·repeat refine W.g ?_
  exact q _ 2 X_ (λg=>by have:=g.2.2.1;omega) (λ_=>rfl)
 by_cases c3:t.evr=0
 ·repeat refine W.g ?_
  exact q _ 0 X_ (λ_=>rfl) (λg=>absurd ⟨ha,by omega,by omega,.inl c3⟩ g)
 by_cases c4:t.evr<t.len
 ·repeat refine W.g ?_
  exact q _ 2 X_ (λg=>by rcases g.2.2.2 with g|g;exact absurd g c3;omega) (λ_=>rfl)
 by_cases c5:1099511627776<t.evr
 ·repeat refine W.g ?_
  exact q _ 2 X_ (λg=>by rcases g.2.2.2 with g|g;exact absurd g c3;omega) (λ_=>rfl)
 repeat refine W.g ?_
 exact q _ 0 X_ (λ_=>rfl) (λg=>absurd ⟨ha,by omega,by omega,.inr ⟨by omega,by omega⟩⟩ g)
theorem rjoined_w {h:Heap} {tm:Tm} {Q:R->Prop} {v:CV} {l:List (Int×Int)} (fr:Fresh h) (sl:Sl h v l) (hm:l.length<=1024)
  (q:∀h' v',Ext h h'->Q (.val v' h')):W E1 (.call (.fn 169 [] []) [v]) tm h Q:=by
 refine W.fn (s:=fnOf Tryz.f169) rfl rfl rfl rfl ?_;repeat refine W.g ?_
 refine W.loop (σ:=Nat) (λk tm h'=>Ext h h'/\tm.look 0=v/\tm.look 4= .int .i64 (k:Int)/\k<=l.length/\∃(vo:CV) (ws:List (Int×Int)),tm.look 3=vo/\ws.length<=k/\OwnR h' h.next 2 vo (ws.map Flat.enc)) (λk=>l.length-k) ?_ (s:=0)
  ⟨Ext.refl _,rfl,rfl,Nat.zero_le _,_,[],rfl,Nat.le_refl _,OwnR.nil⟩
 rintro k tm h' ⟨X,w0,w4,hk,vo,ws,w3,hw,O⟩;by_cases c1:k<l.length
 rotate_left
 ·skip
  obtain⟨T,rfl⟩:=Tm.t3 w0 w3 w4;clear w0 w3 w4;repeat refine W.g ?_
  exact q _ _ X
 have sl':=sl.ext X;rcases List.eq_nil_or_concat ws with rfl|⟨done,p,rfl⟩
 ·obtain⟨pv,nv,cv,xv,e⟩:=O.form
  have hnv:nv=0:=by
   rcases O with⟨_,ev⟩|⟨i,x,ro,ev,_⟩
   ·rw[e]at ev;cases ev;rfl
   ·rw[e]at ev;cases ev;rfl
  subst hnv;cases e;obtain⟨T,rfl⟩:=Tm.t3 w0 w3 w4;clear w0 w3 w4;repeat refine W.g ?_
  have ds:=DX.start (X.fr fr);repeat refine W.gd ?_
  repeat refine W.g ?_
  refine W.iz λi_ o_ L_=> ?_;repeat (first|refine W.g ?_|refine W.n λh_ X_ n_ g_ S_=> ?_)
  have S_:SlG _ 2 _ (([l[k]]:List (Int×Int)).map Flat.enc):=S_
  refine W.apR (H:=h) (z:=2) Ext.x (O.ext Ext.x) S_ rfl rfl rfl rfl rfl rfl rfl rfl rfl rfl rfl rfl (by
   simp only[List.length_map,List.length_cons,List.length_nil];show _*16<=_;omega) λv' h2 X2 O2=> ?_
  repeat refine W.g ?_
  exact⟨k+1,lessN c1,X2,rfl,rfl,c1,_,[l[k]],rfl,by simp,O2⟩
 ·have hl1:(done++[p]).length=done.length+1:=by rw[List.length_append];rfl
  have hl2:((done++[p]).map (Flat.enc:Int×Int->List CV)).length=done.length+1:=by rw[List.length_map];exact hl1
  rw[List.concat_eq_append]at O hw;have hp:((done++[p]).map (Flat.enc:Int×Int->List CV))[done.length]? =some (winE p):=by rw[List.getElem?_map,List.getElem?_append_right (Nat.le_refl _),Nat.sub_self];rfl
  obtain⟨io,c,x,ev,lo,li,hid,gi,hz⟩:=O.at (j:=done.length) (by omega);rw[hl2]at ev;subst ev;have hj:Int.ofNat (done.length+1)=(done.length:Int)+1:=rfl;obtain⟨T,rfl⟩:=Tm.t3 w0 w3 w4;clear w0 w3 w4;repeat refine W.g ?_
  have ds:=DX.start (X.fr fr);repeat refine W.gd ?_
  refine W.dixF sl' c1 rfl rfl rfl rfl rfl rfl rfl λi1 o1 L1=> ?_;repeat (first|refine W.gd ?_|refine W.e λr_ h_ ds_ s_=> ?_)
  refine W.dix rfl rfl rfl rfl rfl rfl rfl (place_of (j:=done.length) (by omega) (by omega)) ?_;repeat refine W.gd ?_
  have ds2:=ds_;refine W.dldZ ds2 rfl rfl rfl gi li rfl (v:= .int .i64 p.2) (flat_get hz hp rfl) λr2 h2 ds3 s3=> ?_;clear ds_ ds2;have X3:=ds3.x;by_cases c2:l[k].1<=p.2
  ·repeat refine W.gd ?_
   repeat refine W.g ?_
   have ds5:=DX.start ((X.trans X3).fr fr);clear ds ds3;repeat refine W.gd ?_
   refine W.dix rfl rfl rfl rfl rfl rfl rfl (place_of (j:=done.length) (by omega) (by omega)) ?_;repeat refine W.gd ?_
   refine W.dldZ ds5 rfl rfl rfl ((X3.old io li).trans gi) (Nat.lt_of_lt_of_le li X3.next) rfl (v:= .int .i64 p.2) (flat_get hz hp rfl) λr4 h4 ds7 s4=> ?_;repeat refine W.gd ?_
   refine W.dixF (sl'.ext X3) c1 rfl rfl rfl rfl rfl rfl rfl λi2 o2 L2=> ?_;repeat (first|refine W.gd ?_|refine W.e λr_ h_ ds_ s_=> ?_)
   refine W.dix rfl rfl rfl rfl rfl rfl rfl (place_of (j:=done.length) (by omega) (by omega)) ?_;repeat refine W.gd ?_
   have X4:=ds_.x;have XX:=X3.trans X4;refine W.dst (vs:=[.int .i64 (mx p.2 l[k].2)]) (cs':=(((done++[p]).map Flat.enc).set done.length ((winE p).set 1 (.int .i64 (mx p.2 l[k].2)))).flatten) ds_.hri rfl rfl rfl rfl rfl rfl rfl ((XX.old io li).trans gi) (flat_setAt hz (by decide) hp) λr5 J hr5 s5=> ?_;repeat refine W.gd ?_
   repeat refine W.g ?_
   have e5:((done++[p]).map (Flat.enc:Int×Int->List CV)).set done.length ((winE p).set 1 (.int .i64 (mx p.2 l[k].2)))=(done++[(p.1,mx p.2 l[k].2)]).map Flat.enc:=by
    rw[List.map_append,List.map_append,List.set_append_right _ _ (by rw[List.length_map];omega),List.length_map,Nat.sub_self];rfl
   have O2:=(O.ext XX).set (h':=J) (j:=done.length) (i:=io) (e:=(winE p).set 1 (.int .i64 (mx p.2 l[k].2))) (by omega) rfl (by rw[s5.next];rfl) hid (by rw[s5.get,put_same]);rw[e5]at O2;have XJ:Ext h J:=((X.trans XX).put lo (Nat.lt_of_lt_of_le li XX.next) _).trans s5.ext;exact⟨k+1,lessN c1,XJ,rfl,rfl,c1,_,_,rfl,by rw[List.length_append]at hw ⊢;exact Nat.le_succ_of_le hw,O2⟩
  ·repeat refine W.gd ?_
   repeat refine W.g ?_
   have sl2:=sl'.ext X3;refine W.iz λi_ o_ L_=> ?_;repeat (first|refine W.g ?_|refine W.n λh_ X_ n_ g_ S_=> ?_)
   have S_:SlG _ 2 _ (([l[k]]:List (Int×Int)).map Flat.enc):=S_
   refine W.apR (H:=h) (z:=2) (X.trans (X3.trans X_)) (O.ext (X3.trans X_)) S_ rfl rfl rfl rfl rfl rfl rfl rfl rfl rfl rfl rfl (by
    rw[hl2];simp only[List.length_map,List.length_cons,List.length_nil];show _*16<=_;omega) λv' h2 X2 O2=> ?_
   repeat refine W.g ?_
   exact⟨k+1,lessN c1,X2,rfl,rfl,c1,_,(done++[p])++[l[k]],rfl,by rw[List.length_append];exact Nat.succ_le_succ hw,by rw[List.map_append];exact O2⟩
theorem rwins_w {h:Heap} {tm:Tm} {Q:R->Prop} (t:Times) (hz:Int) (fr:Fresh h) (q:∀h' v,Ext h h'->Q (.val (.tup [v,.int .i64 (t.err hz)]) h')):W E1 (.call (.fn 154 [] []) [.agg t.enc,.int .i64 hz]) tm h Q:=by
 refine W.fn (s:=fnOf Tryz.f154) rfl rfl rfl rfl ?_;repeat (refine W.seq ?_)
 refine W.region ?_;refine W.box rfl rfl rfl λH XH nH gH LH=> ?_;repeat refine W.g ?_
 refine W.call rfl rfl rfl (rtimesCheck_w t λh1 e X1 e1 e2=> ?_);by_cases ok:t.ok
 rotate_left
 ·have e2:=e2 ok
  subst e2;have er:t.err hz=2:=if_pos ok;rw[er]at q;repeat refine W.g ?_
  exact q _ _ (XH.trans X1)
 have e1:=e1 ok;subst e1;refine W.k3 1 2 12 λT=> ?_;repeat refine W.g ?_
 refine W.call rfl rfl rfl (rtick_w hz (λtk=> ?_) λnt=> ?_)
 rotate_left
 ·have er:t.err hz=9:=by
    unfold Times.err;rw[if_neg (λg=>g ok),if_pos nt]
  rw[er]at q;repeat refine W.g ?_
  exact q _ _ (XH.trans X1)
 refine W.k3 1 2 16 λT=> ?_;repeat refine W.g ?_
 obtain⟨o1,o2,o3,o4⟩:=ok
 have oe:TickOk t.evr:=by
  rcases o4 with g|g
  ·rw[g];exact⟨by omega,by omega⟩
  ·exact⟨by omega,g.2⟩
 refine W.call rfl rfl rfl (rcount_w t.frm t.evr hz ?_);rw[if_pos ⟨o1,oe,tk⟩];obtain⟨n,hn⟩:∃n,n=countT t.frm t.evr hz:=⟨_,rfl⟩;rw[<-hn]
 have n0:0<=n:=by
  rw[hn];unfold countT;split
  ·omega
  ·split
   ·omega
   ·have:=Int.ediv_nonneg (a:=hz-t.frm) (b:=t.evr) (by omega) oe.1
    omega
 by_cases c1:256<n
 ·have er:t.err hz=3:=by
    unfold Times.err;rw[if_neg (λg=>g ⟨o1,o2,o3,o4⟩),if_neg (λg=>g tk),if_pos (by rw[<-hn];exact c1)]
  rw[er]at q;repeat refine W.g ?_
  exact q _ _ (XH.trans X1)
 have er:t.err hz=0:=by
  unfold Times.err;rw[if_neg (λg=>g ⟨o1,o2,o3,o4⟩),if_neg (λg=>g tk),if_neg (by rw[<-hn];exact c1)]
 rw[er]at q;obtain⟨m,hm⟩:∃m:Nat,n=(m:Int):=⟨n.toNat,by omega⟩;clear hn;subst hm;refine W.k3 1 2 25 λT=> ?_;repeat refine W.g ?_
 have f1:=o1.1;have f2:=o1.2;have g1:=oe.1;have g2:=oe.2
 refine W.loop (σ:=Nat) (λk tm h'=>Ext h1 h'/\tm.look 2= .ptr (some (h.next,0))/\tm.look 7= .int .i64 (m:Int)/\tm.look 9= .int .i64 (k:Int)/\k<=m/\∃vo,tm.look 8=vo/\OwnR h' h1.next 2 vo (((List.range k).map (winAt t)).map Flat.enc)) (λk=>m-k) ?_ (s:=0)
  ⟨Ext.refl _,rfl,rfl,rfl,Nat.zero_le _,_,rfl,OwnR.nil⟩
 rintro k tm h' ⟨X,w2,w7,w9,hk,vo,w8,O⟩;obtain⟨pv,nv,cv,xv,e⟩:=O.form;cases e;obtain⟨T,rfl⟩:=Tm.t4 w2 w7 w8 w9;clear w2 w7 w8 w9;by_cases c2:k<m
 ·have p0:0<=(k:Int)*t.evr:=Int.mul_nonneg (by omega) g1
  have p1:(k:Int)*t.evr<=256*1099511627776:=Int.mul_le_mul (by omega) g2 g1 (by omega);have p2: -9223372036854775808<=(k:Int)*t.evr:=by omega
  have p3:(k:Int)*t.evr<=9223372036854775807:=by omega
  repeat (first|refine W.g ?_|refine W.n λh_ X_ n_ g_ S_=> ?_)
  have S_:SlG _ 2 _ (([winAt t k]:List (Int×Int)).map Flat.enc):=S_
  refine W.apR (H:=h1) (z:=2) Ext.x (O.ext Ext.x) S_ rfl rfl rfl rfl rfl rfl rfl rfl rfl rfl rfl rfl (by
   simp only[List.length_map,List.length_cons,List.length_nil,List.length_range];show _*16<=_;omega) λv' h2 X2 O2=> ?_
  repeat refine W.g ?_
  exact⟨k+1,lessN c2,X2,rfl,rfl,rfl,c2,_,rfl,by rw[List.range_succ,List.map_append,List.map_append];exact O2⟩
 ·have sl:=Sl.of_map Flat.iff O.sl
  repeat refine W.g ?_
  refine W.call rfl rfl rfl (rjoined_w ((X1.trans X).fr (XH.fr fr)) sl (by rw[List.length_map,List.length_range];omega) λh3 v3 X3=> ?_);repeat refine W.g ?_
  exact q _ _ (XH.trans (X1.trans (X.trans X3)))
theorem rtimes_w {h:Heap} {tm:Tm} {Q:R->Prop} (t:Times) (hz:Int) (fr:Fresh h) (q:∀h',Ext h h'->Q (.val (.int .i64 (t.err hz)) h')):W E1 (.call (.fn 122 [] []) [.agg t.enc,.int .i64 hz]) tm h Q:=by
 refine W.fn (s:=fnOf Tryz.f122) rfl rfl rfl rfl ?_;repeat (refine W.seq ?_)
 refine W.region ?_;refine W.box rfl rfl rfl λH XH nH gH LH=> ?_;repeat refine W.g ?_
 refine W.call rfl rfl rfl (rwins_w t hz (XH.fr fr) λh1 v X1=> ?_);repeat refine W.g ?_
 exact q _ (XH.trans X1)
end
end Go.Proofs.YtmgpjfnlciapkaaGreatDoor

noncomputable section
namespace Go.CM
theorem SlG.ones {h:Heap} {i:Nat} {cs:List CV} (hi:i<h.next) (g:h.get i=some (.cells cs false)):SlG h 1 (.slice (some (i,0)) cs.length cs.length 0) (cs.map λc=>[c]):=by
 refine .inr (.inr ⟨i,0,cs.length,0,cs,false,by rw[List.length_map],hi,g,λj e he=> ?_,by rw[List.length_map];exact Nat.le_refl _,.inl rfl⟩)
 have hz:∀e∈cs.map λc=>[c],e.length=1:=λe he=>by
  obtain⟨c,_,rfl⟩:=List.mem_map.1 he;rfl
 refine⟨hz e (List.mem_of_getElem? he),?_⟩;have:=flat_cut hz he;rwa[flatten_ones]at this
section
variable {h h' H:Heap} {z:Nat} {l:List (List CV)} {E:Env} {tm:Tm} {Q:R->Prop} {all rest:List Oper} {o:Oper} {B:Nat->Prop} {bs:List Bits} {recs:List Rec} {i:Nat} {idx nr:List Nat}
theorem DV.pairsR {ahead:Bits} {fp:List Nat} {news:List Nat} (hnew:∀k∈news,h.next<=k) (hnr:∀j∈nr,bit j ahead=true):∀{recs:List Rec},(∀r∈recs,recIdx r∈nr\/∃i fp lo,r= .op i fp false lo lo/\(∀k∈fp,B k)/\∀k∈fp,k<h.next)->okPairs ahead fp false news recs=true
 |[],_=>rfl
 |r::rs,hr=>by
  unfold okPairs;have ih:=DV.pairsR (fp:=fp) (news:=news) hnew hnr (recs:=rs) λx hx=>hr x (List.mem_cons_of_mem _ hx);rcases hr r (by simp)with h1|⟨i,fp',lo,rfl,h2,h3⟩
  ·rw[hnr _ h1,ih]
   cases okPair fp false news r<;>rfl
  ·have:okPair fp false news (.op i fp' false lo lo)=true:=by
     rw[okPair_op,all1_each λk hk=>by
      unfold opApart;rw[within_self];rfl]
     show all1 news (λk=> !mem k fp')=true;refine all1_each λk hk=> ?_;rw[mem_false λx hx e=>by have:=h3 x hx;have:=hnew k hk;omega];rfl
   rw[this];exact ih
theorem W.apVs {c:Call} {t t2 e:TypeId} {ts es t2s:TyS} {s s2:CV} {l2:List (List CV)} (dv:DV B h idx nr recs) (X:Ext H h) (so:OwnR h H.next z s l) (s2l:SlG h z s2 l2) (hB:∀b,B b->b∉idOf s) (hid:(nr.all λj=>bit j ((nth bs i).getD Bits.nil))=true)
  (hgd:guardOn all tm o=some true) (hop:o.op= .call c) (hb:c.callee= .builtin .append) (hty:c.argTypes.toList=[t,t2]) (ha:c.args.toList.map (cvOf E.globs tm)=[s,s2])
  (hts:E.ty t=some ts) (hk:ts.kind= .slice e) (hes:E.ty e=some es) (hz:es.size=z) (hz0:(Nat.beq es.size 0||Nat.beq es.bytes 0)=false) (ht2:E.ty t2=some t2s) (hk2:t2s.kind= .slice e) (hm:(l.length+l2.length)*es.bytes<=70368744177664)
  (w:∀recs' v' h',DV B h' (i::idx) (i::nr) recs'->Ext H h'->(∀b,B b->h'.get b=h.get b)->h.next<=h'.next->OwnR h' H.next z v' (l++l2)->(∀c,c<h.next->idOf s≠[c]->idOf v'≠[c])->W E (.draw bs all rest (i+1) recs') (putTmp tm o.dst v') h' Q):W E (.draw bs all (o::rest) i recs) tm h Q:=by
 have d:=dv.d;have hnr:∀j∈nr,bit j ((nth bs i).getD Bits.nil)=true:=λj hj=>List.all_eq_true.1 hid j hj;refine W.apC (λn _=>⟨DV.pairsR (λk hk=>((mem_span _ _ _).1 hk).1) hnr dv.r,DV.pairs hB (λk hk=>((mem_span _ _ _).1 hk).1) hnr dv.r⟩) X so s2l hgd hop hb hty ha hts hk hes hz hz0 ht2 hk2 hm λrecs' v' h' hr hlt X' nn kk O' kid _=> ?_;refine w recs' v' h' ?_ X' (λb hb=>kk b (d.b b hb) (.inr λe=>hB b hb (by rw[e];simp))) nn O' kid;rcases hr with rfl|⟨lo,hi,rfl,rfl⟩
 ·exact⟨⟨λr hr=>⟨List.mem_cons_of_mem _ (d.r r hr).1,by obtain⟨i,fp,ws,lo,hi,h2,h3,h4⟩:=(d.r r hr).2;exact⟨i,fp,ws,lo,hi,h2,λk hk=>Nat.lt_of_lt_of_le (h3 k hk) nn,h4⟩⟩,λb hb=>Nat.lt_of_lt_of_le (d.b b hb) nn⟩,λr hr=>(dv.r r hr).imp (List.mem_cons_of_mem _) λ⟨i,fp,lo,h1,h2,h3⟩=>⟨i,fp,lo,h1,h2,λk hk=>Nat.lt_of_lt_of_le (h3 k hk) nn⟩⟩
 ·exact dv.more (d.tail nn rfl ⟨_,_,_,_,_,.inl rfl,λk hk=>Nat.lt_of_lt_of_le (hlt k hk) nn,λb hb=>⟨d.b b hb,hB b hb⟩⟩) nn (.inl (by simp[recIdx])) λj hj=>List.mem_cons_of_mem _ hj
end
end Go.CM
