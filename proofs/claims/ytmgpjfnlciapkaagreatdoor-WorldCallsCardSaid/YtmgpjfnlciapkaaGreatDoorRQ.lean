/- Rows of any content, as slices.Equal tells. -/
import Derived.Test.YtmgpjfnlciapkaaGreatDoorXU
import Derived.Test.YtmgpjfnlciapkaaGreatDoorRO
import Derived.Test.YtmgpjfnlciapkaaGreatDoorYS
set_option linter.unusedVariables false
set_option linter.unusedSimpArgs false
namespace Go.Proofs.YtmgpjfnlciapkaaGreatDoor
open Go Go.CM Go.CM.Tt
noncomputable section
set_option maxHeartbeats 16000000
theorem eql2_str {h:Heap} {tm:Tm} {Q:R->Prop} {v w:CV} {l m:List Str} (fr:Fresh h) (s1:Sl h v l) (s2:Sl h w m) (hm:l.length<=1099511627776) (hm2:m.length<=1099511627776) (q:∀h' (b:Bool),Ext h h'->(b=true↔l=m)->Q (.val (.bool b) h')):W E1 (.call (.fn 64 [] []) [v,w]) tm h Q:=by
 refine W.fn (s:=fnOf Tryz.f64) rfl rfl rfl rfl ?_;by_cases c0:l.length=m.length
 case neg=>
  have c0':¬(l.length:Int)=(m.length:Int):=by omega
  repeat refine W.g ?_
  exact q _ false (Ext.refl _) (Iff.intro (λh=>by cases h) (λh=>absurd (by rw[h]) c0))
 have c0':(l.length:Int)=(m.length:Int):=by omega
 repeat refine W.g ?_
 refine W.loop (σ:=Nat) (λk tm h'=>Ext h h'/\tm.look 0=v/\tm.look 1=w/\tm.look 12= .int .i64 (l.length:Int)/\tm.look 13= .int .i64 (k:Int)/\k<=l.length/\∀j:Nat,j<k->l[j]? =m[j]?) (λk=>l.length-k) ?_ (s:=0) ⟨Ext.refl _,rfl,rfl,rfl,rfl,Nat.zero_le _,λj hj=>by omega⟩;rintro k tm h' ⟨X,w0,w1,w12,w13,hk,hl⟩;obtain⟨T,rfl⟩:=Tm.t4 w0 w1 w12 w13;clear w0 w1 w12 w13;by_cases c1:k<l.length
 ·have c2:k<m.length:=by omega
  repeat refine W.g ?_
  have ds:=DX.start (X.fr fr);try refine W.dv ?_
  refine W.dixF s1 c1 rfl rfl rfl rfl rfl rfl rfl λi1 o1 L1=> ?_;repeat (first|refine W.gd ?_|refine W.e λr_ h_ ds_ s_=> ?_)
  clear ds;have X1:=ds_.x;refine W.dixF s2 c2 rfl rfl rfl rfl rfl rfl rfl λi2 o2 L2=> ?_;repeat (first|refine W.gd ?_|refine W.e λr_ h_ ds_ s_=> ?_)
  have X2:=ds_.x;by_cases d1:l[k]=m[k]
  ·rw[show bytesEq l[k] m[k]=true by rw[bytesEq_eq,d1];simp]
   repeat refine W.g ?_
   exact⟨k+1,lessN c1,X.trans X2,rfl,rfl,rfl,rfl,c1,λj hj=>by
    by_cases e:j=k
    ·rw[e,List.getElem?_eq_getElem c1,List.getElem?_eq_getElem c2,d1]
    ·exact hl j (by omega)⟩
  ·rw[show bytesEq l[k] m[k]=false by rw[bytesEq_eq];simp[d1]]
   repeat refine W.g ?_
   exact q _ false (X.trans X2) (Iff.intro (λh=>by cases h) (λh=>absurd h (list_differ c1 c2 d1)))
 ·repeat refine W.g ?_
  exact q _ true X (Iff.intro (λ_=>list_same c0 λj hj=>hl j (by omega)) (λ_=>rfl))
theorem eql2_nt {h:Heap} {tm:Tm} {Q:R->Prop} {v w:CV} {l m:List Int} (fr:Fresh h) (s1:Sl h v l) (s2:Sl h w m) (hm:l.length<=1099511627776) (hm2:m.length<=1099511627776) (q:∀h' (b:Bool),Ext h h'->(b=true↔l=m)->Q (.val (.bool b) h')):W E1 (.call (.fn 66 [] []) [v,w]) tm h Q:=by
 refine W.fn (s:=fnOf Tryz.f66) rfl rfl rfl rfl ?_;by_cases c0:l.length=m.length
 case neg=>
  have c0':¬(l.length:Int)=(m.length:Int):=by omega
  repeat refine W.g ?_
  exact q _ false (Ext.refl _) (Iff.intro (λh=>by cases h) (λh=>absurd (by rw[h]) c0))
 have c0':(l.length:Int)=(m.length:Int):=by omega
 repeat refine W.g ?_
 refine W.loop (σ:=Nat) (λk tm h'=>Ext h h'/\tm.look 0=v/\tm.look 1=w/\tm.look 12= .int .i64 (l.length:Int)/\tm.look 13= .int .i64 (k:Int)/\k<=l.length/\∀j:Nat,j<k->l[j]? =m[j]?) (λk=>l.length-k) ?_ (s:=0) ⟨Ext.refl _,rfl,rfl,rfl,rfl,Nat.zero_le _,λj hj=>by omega⟩;rintro k tm h' ⟨X,w0,w1,w12,w13,hk,hl⟩;obtain⟨T,rfl⟩:=Tm.t4 w0 w1 w12 w13;clear w0 w1 w12 w13;by_cases c1:k<l.length
 ·have c2:k<m.length:=by omega
  repeat refine W.g ?_
  have ds:=DX.start (X.fr fr);try refine W.dv ?_
  refine W.dixF s1 c1 rfl rfl rfl rfl rfl rfl rfl λi1 o1 L1=> ?_;repeat (first|refine W.gd ?_|refine W.e λr_ h_ ds_ s_=> ?_)
  clear ds;have X1:=ds_.x;refine W.dixF s2 c2 rfl rfl rfl rfl rfl rfl rfl λi2 o2 L2=> ?_;repeat (first|refine W.gd ?_|refine W.e λr_ h_ ds_ s_=> ?_)
  have X2:=ds_.x;by_cases d1:l[k]=m[k]
  ·have d1:l[k]=m[k]:=d1
   repeat refine W.g ?_
   exact⟨k+1,lessN c1,X.trans X2,rfl,rfl,rfl,rfl,c1,λj hj=>by
    by_cases e:j=k
    ·rw[e,List.getElem?_eq_getElem c1,List.getElem?_eq_getElem c2,d1]
    ·exact hl j (by omega)⟩
  ·have d1:¬l[k]=m[k]:=d1
   repeat refine W.g ?_
   exact q _ false (X.trans X2) (Iff.intro (λh=>by cases h) (λh=>absurd h (list_differ c1 c2 d1)))
 ·repeat refine W.g ?_
  exact q _ true X (Iff.intro (λ_=>list_same c0 λj hj=>hl j (by omega)) (λ_=>rfl))
theorem eql2_int {h:Heap} {tm:Tm} {Q:R->Prop} {v w:CV} {l m:List Int} (fr:Fresh h) (s1:Sl h v l) (s2:Sl h w m) (hm:l.length<=1099511627776) (hm2:m.length<=1099511627776) (q:∀h' (b:Bool),Ext h h'->(b=true↔l=m)->Q (.val (.bool b) h')):W E1 (.call (.fn 67 [] []) [v,w]) tm h Q:=by
 refine W.fn (s:=fnOf Tryz.f67) rfl rfl rfl rfl ?_;by_cases c0:l.length=m.length
 case neg=>
  have c0':¬(l.length:Int)=(m.length:Int):=by omega
  repeat refine W.g ?_
  exact q _ false (Ext.refl _) (Iff.intro (λh=>by cases h) (λh=>absurd (by rw[h]) c0))
 have c0':(l.length:Int)=(m.length:Int):=by omega
 repeat refine W.g ?_
 refine W.loop (σ:=Nat) (λk tm h'=>Ext h h'/\tm.look 0=v/\tm.look 1=w/\tm.look 12= .int .i64 (l.length:Int)/\tm.look 13= .int .i64 (k:Int)/\k<=l.length/\∀j:Nat,j<k->l[j]? =m[j]?) (λk=>l.length-k) ?_ (s:=0) ⟨Ext.refl _,rfl,rfl,rfl,rfl,Nat.zero_le _,λj hj=>by omega⟩;rintro k tm h' ⟨X,w0,w1,w12,w13,hk,hl⟩;obtain⟨T,rfl⟩:=Tm.t4 w0 w1 w12 w13;clear w0 w1 w12 w13;by_cases c1:k<l.length
 ·have c2:k<m.length:=by omega
  repeat refine W.g ?_
  have ds:=DX.start (X.fr fr);try refine W.dv ?_
  refine W.dixF s1 c1 rfl rfl rfl rfl rfl rfl rfl λi1 o1 L1=> ?_;repeat (first|refine W.gd ?_|refine W.e λr_ h_ ds_ s_=> ?_)
  clear ds;have X1:=ds_.x;refine W.dixF s2 c2 rfl rfl rfl rfl rfl rfl rfl λi2 o2 L2=> ?_;repeat (first|refine W.gd ?_|refine W.e λr_ h_ ds_ s_=> ?_)
  have X2:=ds_.x;by_cases d1:l[k]=m[k]
  ·have d1:l[k]=m[k]:=d1
   repeat refine W.g ?_
   exact⟨k+1,lessN c1,X.trans X2,rfl,rfl,rfl,rfl,c1,λj hj=>by
    by_cases e:j=k
    ·rw[e,List.getElem?_eq_getElem c1,List.getElem?_eq_getElem c2,d1]
    ·exact hl j (by omega)⟩
  ·have d1:¬l[k]=m[k]:=d1
   repeat refine W.g ?_
   exact q _ false (X.trans X2) (Iff.intro (λh=>by cases h) (λh=>absurd h (list_differ c1 c2 d1)))
 ·repeat refine W.g ?_
  exact q _ true X (Iff.intro (λ_=>list_same c0 λj hj=>hl j (by omega)) (λ_=>rfl))
theorem eql2_path {h:Heap} {tm:Tm} {Q:R->Prop} {v w:CV} {l m:List PathW} (fr:Fresh h) (s1:Sl h v l) (s2:Sl h w m) (hm:l.length<=1099511627776) (hm2:m.length<=1099511627776) (q:∀h' (b:Bool),Ext h h'->(b=true↔l=m)->Q (.val (.bool b) h')):W E1 (.call (.fn 68 [] []) [v,w]) tm h Q:=by
 refine W.fn (s:=fnOf Tryz.f68) rfl rfl rfl rfl ?_;by_cases c0:l.length=m.length
 case neg=>
  have c0':¬(l.length:Int)=(m.length:Int):=by omega
  repeat refine W.g ?_
  exact q _ false (Ext.refl _) (Iff.intro (λh=>by cases h) (λh=>absurd (by rw[h]) c0))
 have c0':(l.length:Int)=(m.length:Int):=by omega
 repeat refine W.g ?_
 refine W.loop (σ:=Nat) (λk tm h'=>Ext h h'/\tm.look 0=v/\tm.look 1=w/\tm.look 12= .int .i64 (l.length:Int)/\tm.look 13= .int .i64 (k:Int)/\k<=l.length/\∀j:Nat,j<k->l[j]? =m[j]?) (λk=>l.length-k) ?_ (s:=0) ⟨Ext.refl _,rfl,rfl,rfl,rfl,Nat.zero_le _,λj hj=>by omega⟩;rintro k tm h' ⟨X,w0,w1,w12,w13,hk,hl⟩;obtain⟨T,rfl⟩:=Tm.t4 w0 w1 w12 w13;clear w0 w1 w12 w13;by_cases c1:k<l.length
 ·have c2:k<m.length:=by omega
  repeat refine W.g ?_
  have ds:=DX.start (X.fr fr);try refine W.dv ?_
  refine W.dixF s1 c1 rfl rfl rfl rfl rfl rfl rfl λi1 o1 L1=> ?_;repeat (first|refine W.gd ?_|refine W.e λr_ h_ ds_ s_=> ?_)
  clear ds;have X1:=ds_.x;refine W.dixF s2 c2 rfl rfl rfl rfl rfl rfl rfl λi2 o2 L2=> ?_;repeat refine W.e λr_ h_ ds_ s_=> ?_
  have X2:=ds_.x;obtain⟨b,hb,he⟩:=ne2_path (d:=l[k]) (e:=m[k]);by_cases d1:l[k]=m[k]
  ·obtain rfl:b=true:=he.2 d1
   refine W.dopn rfl rfl (hb _) rfl ?_;repeat refine W.gd ?_
   repeat refine W.g ?_
   exact⟨k+1,lessN c1,X.trans X2,rfl,rfl,rfl,rfl,c1,λj hj=>by
    by_cases e:j=k
    ·rw[e,List.getElem?_eq_getElem c1,List.getElem?_eq_getElem c2,d1]
    ·exact hl j (by omega)⟩
  ·obtain rfl:b=false:=by
     cases b
     ·rfl
     ·exact absurd (he.1 rfl) d1
   refine W.dopn rfl rfl (hb _) rfl ?_;repeat refine W.gd ?_
   repeat refine W.g ?_
   exact q _ false (X.trans X2) (Iff.intro (λh=>by cases h) (λh=>absurd h (list_differ c1 c2 d1)))
 ·repeat refine W.g ?_
  exact q _ true X (Iff.intro (λ_=>list_same c0 λj hj=>hl j (by omega)) (λ_=>rfl))
theorem eql2_door {h:Heap} {tm:Tm} {Q:R->Prop} {v w:CV} {l m:List DoorW} (fr:Fresh h) (s1:Sl h v l) (s2:Sl h w m) (hm:l.length<=1099511627776) (hm2:m.length<=1099511627776) (q:∀h' (b:Bool),Ext h h'->(b=true↔l=m)->Q (.val (.bool b) h')):W E1 (.call (.fn 69 [] []) [v,w]) tm h Q:=by
 refine W.fn (s:=fnOf Tryz.f69) rfl rfl rfl rfl ?_;by_cases c0:l.length=m.length
 case neg=>
  have c0':¬(l.length:Int)=(m.length:Int):=by omega
  repeat refine W.g ?_
  exact q _ false (Ext.refl _) (Iff.intro (λh=>by cases h) (λh=>absurd (by rw[h]) c0))
 have c0':(l.length:Int)=(m.length:Int):=by omega
 repeat refine W.g ?_
 refine W.loop (σ:=Nat) (λk tm h'=>Ext h h'/\tm.look 0=v/\tm.look 1=w/\tm.look 12= .int .i64 (l.length:Int)/\tm.look 13= .int .i64 (k:Int)/\k<=l.length/\∀j:Nat,j<k->l[j]? =m[j]?) (λk=>l.length-k) ?_ (s:=0) ⟨Ext.refl _,rfl,rfl,rfl,rfl,Nat.zero_le _,λj hj=>by omega⟩;rintro k tm h' ⟨X,w0,w1,w12,w13,hk,hl⟩;obtain⟨T,rfl⟩:=Tm.t4 w0 w1 w12 w13;clear w0 w1 w12 w13;by_cases c1:k<l.length
 ·have c2:k<m.length:=by omega
  repeat refine W.g ?_
  have ds:=DX.start (X.fr fr);try refine W.dv ?_
  refine W.dixF s1 c1 rfl rfl rfl rfl rfl rfl rfl λi1 o1 L1=> ?_;repeat (first|refine W.gd ?_|refine W.e λr_ h_ ds_ s_=> ?_)
  clear ds;have X1:=ds_.x;refine W.dixF s2 c2 rfl rfl rfl rfl rfl rfl rfl λi2 o2 L2=> ?_;repeat refine W.e λr_ h_ ds_ s_=> ?_
  have X2:=ds_.x;obtain⟨b,hb,he⟩:=ne2_door (d:=l[k]) (e:=m[k]);by_cases d1:l[k]=m[k]
  ·obtain rfl:b=true:=he.2 d1
   refine W.dopn rfl rfl (hb _) rfl ?_;repeat refine W.gd ?_
   repeat refine W.g ?_
   exact⟨k+1,lessN c1,X.trans X2,rfl,rfl,rfl,rfl,c1,λj hj=>by
    by_cases e:j=k
    ·rw[e,List.getElem?_eq_getElem c1,List.getElem?_eq_getElem c2,d1]
    ·exact hl j (by omega)⟩
  ·obtain rfl:b=false:=by
     cases b
     ·rfl
     ·exact absurd (he.1 rfl) d1
   refine W.dopn rfl rfl (hb _) rfl ?_;repeat refine W.gd ?_
   repeat refine W.g ?_
   exact q _ false (X.trans X2) (Iff.intro (λh=>by cases h) (λh=>absurd h (list_differ c1 c2 d1)))
 ·repeat refine W.g ?_
  exact q _ true X (Iff.intro (λ_=>list_same c0 λj hj=>hl j (by omega)) (λ_=>rfl))
theorem eql2_trip {h:Heap} {tm:Tm} {Q:R->Prop} {v w:CV} {l m:List TripW} (fr:Fresh h) (s1:Sl h v l) (s2:Sl h w m) (hm:l.length<=1099511627776) (hm2:m.length<=1099511627776) (q:∀h' (b:Bool),Ext h h'->(b=true↔l=m)->Q (.val (.bool b) h')):W E1 (.call (.fn 71 [] []) [v,w]) tm h Q:=by
 refine W.fn (s:=fnOf Tryz.f71) rfl rfl rfl rfl ?_;by_cases c0:l.length=m.length
 case neg=>
  have c0':¬(l.length:Int)=(m.length:Int):=by omega
  repeat refine W.g ?_
  exact q _ false (Ext.refl _) (Iff.intro (λh=>by cases h) (λh=>absurd (by rw[h]) c0))
 have c0':(l.length:Int)=(m.length:Int):=by omega
 repeat refine W.g ?_
 refine W.loop (σ:=Nat) (λk tm h'=>Ext h h'/\tm.look 0=v/\tm.look 1=w/\tm.look 12= .int .i64 (l.length:Int)/\tm.look 13= .int .i64 (k:Int)/\k<=l.length/\∀j:Nat,j<k->l[j]? =m[j]?) (λk=>l.length-k) ?_ (s:=0) ⟨Ext.refl _,rfl,rfl,rfl,rfl,Nat.zero_le _,λj hj=>by omega⟩;rintro k tm h' ⟨X,w0,w1,w12,w13,hk,hl⟩;obtain⟨T,rfl⟩:=Tm.t4 w0 w1 w12 w13;clear w0 w1 w12 w13;by_cases c1:k<l.length
 ·have c2:k<m.length:=by omega
  repeat refine W.g ?_
  have ds:=DX.start (X.fr fr);try refine W.dv ?_
  refine W.dixF s1 c1 rfl rfl rfl rfl rfl rfl rfl λi1 o1 L1=> ?_;repeat (first|refine W.gd ?_|refine W.e λr_ h_ ds_ s_=> ?_)
  clear ds;have X1:=ds_.x;refine W.dixF s2 c2 rfl rfl rfl rfl rfl rfl rfl λi2 o2 L2=> ?_;repeat refine W.e λr_ h_ ds_ s_=> ?_
  have X2:=ds_.x;obtain⟨b,hb,he⟩:=ne2_trip (d:=l[k]) (e:=m[k]);by_cases d1:l[k]=m[k]
  ·obtain rfl:b=true:=he.2 d1
   refine W.dopn rfl rfl (hb _) rfl ?_;repeat refine W.gd ?_
   repeat refine W.g ?_
   exact⟨k+1,lessN c1,X.trans X2,rfl,rfl,rfl,rfl,c1,λj hj=>by
    by_cases e:j=k
    ·rw[e,List.getElem?_eq_getElem c1,List.getElem?_eq_getElem c2,d1]
    ·exact hl j (by omega)⟩
  ·obtain rfl:b=false:=by
     cases b
     ·rfl
     ·exact absurd (he.1 rfl) d1
   refine W.dopn rfl rfl (hb _) rfl ?_;repeat refine W.gd ?_
   repeat refine W.g ?_
   exact q _ false (X.trans X2) (Iff.intro (λh=>by cases h) (λh=>absurd h (list_differ c1 c2 d1)))
 ·repeat refine W.g ?_
  exact q _ true X (Iff.intro (λ_=>list_same c0 λj hj=>hl j (by omega)) (λ_=>rfl))
theorem eql2_haz {h:Heap} {tm:Tm} {Q:R->Prop} {v w:CV} {l m:List HazW} (fr:Fresh h) (s1:Sl h v l) (s2:Sl h w m) (hm:l.length<=1099511627776) (hm2:m.length<=1099511627776) (q:∀h' (b:Bool),Ext h h'->(b=true↔l=m)->Q (.val (.bool b) h')):W E1 (.call (.fn 72 [] []) [v,w]) tm h Q:=by
 refine W.fn (s:=fnOf Tryz.f72) rfl rfl rfl rfl ?_;by_cases c0:l.length=m.length
 case neg=>
  have c0':¬(l.length:Int)=(m.length:Int):=by omega
  repeat refine W.g ?_
  exact q _ false (Ext.refl _) (Iff.intro (λh=>by cases h) (λh=>absurd (by rw[h]) c0))
 have c0':(l.length:Int)=(m.length:Int):=by omega
 repeat refine W.g ?_
 refine W.loop (σ:=Nat) (λk tm h'=>Ext h h'/\tm.look 0=v/\tm.look 1=w/\tm.look 12= .int .i64 (l.length:Int)/\tm.look 13= .int .i64 (k:Int)/\k<=l.length/\∀j:Nat,j<k->l[j]? =m[j]?) (λk=>l.length-k) ?_ (s:=0) ⟨Ext.refl _,rfl,rfl,rfl,rfl,Nat.zero_le _,λj hj=>by omega⟩;rintro k tm h' ⟨X,w0,w1,w12,w13,hk,hl⟩;obtain⟨T,rfl⟩:=Tm.t4 w0 w1 w12 w13;clear w0 w1 w12 w13;by_cases c1:k<l.length
 ·have c2:k<m.length:=by omega
  repeat refine W.g ?_
  have ds:=DX.start (X.fr fr);try refine W.dv ?_
  refine W.dixF s1 c1 rfl rfl rfl rfl rfl rfl rfl λi1 o1 L1=> ?_;repeat (first|refine W.gd ?_|refine W.e λr_ h_ ds_ s_=> ?_)
  clear ds;have X1:=ds_.x;refine W.dixF s2 c2 rfl rfl rfl rfl rfl rfl rfl λi2 o2 L2=> ?_;repeat refine W.e λr_ h_ ds_ s_=> ?_
  have X2:=ds_.x;obtain⟨b,hb,he⟩:=ne2_haz (d:=l[k]) (e:=m[k]);by_cases d1:l[k]=m[k]
  ·obtain rfl:b=true:=he.2 d1
   refine W.dopn rfl rfl (hb _) rfl ?_;repeat refine W.gd ?_
   repeat refine W.g ?_
   exact⟨k+1,lessN c1,X.trans X2,rfl,rfl,rfl,rfl,c1,λj hj=>by
    by_cases e:j=k
    ·rw[e,List.getElem?_eq_getElem c1,List.getElem?_eq_getElem c2,d1]
    ·exact hl j (by omega)⟩
  ·obtain rfl:b=false:=by
     cases b
     ·rfl
     ·exact absurd (he.1 rfl) d1
   refine W.dopn rfl rfl (hb _) rfl ?_;repeat refine W.gd ?_
   repeat refine W.g ?_
   exact q _ false (X.trans X2) (Iff.intro (λh=>by cases h) (λh=>absurd h (list_differ c1 c2 d1)))
 ·repeat refine W.g ?_
  exact q _ true X (Iff.intro (λ_=>list_same c0 λj hj=>hl j (by omega)) (λ_=>rfl))
end
end Go.Proofs.YtmgpjfnlciapkaaGreatDoor

namespace Go.Proofs.YtmgpjfnlciapkaaGreatDoor
open Go Go.CM Go.CM.Tt
noncomputable section
set_option maxHeartbeats 16000000
set_option maxRecDepth 100000
theorem routeWEq2_w {h:Heap} {tm:Tm} {Q:R->Prop} {ca cb:List CV} {d e:RouteW} (fr:Fresh h) (ra:Rp.R h ca d) (rb:Rp.R h cb e) (sh:d.stops.length<=1099511627776/\d.rides.length<=1099511627776/\d.stays.length<=1099511627776) (sh2:e.stops.length<=1099511627776/\e.rides.length<=1099511627776/\e.stays.length<=1099511627776) (q:∀h' (b:Bool),Ext h h'->(b=true↔d=e)->Q (.val (.bool b) h')):W E1 (.call (.fn 65 [] []) [.agg ca,.agg cb]) tm h Q:=by
 obtain⟨a1,a2,a3,rfl,p1,p2,p3⟩:=ra;obtain⟨b1,b2,b3,rfl,q1,q2,q3⟩:=rb;obtain⟨m1,m2,m3⟩:=sh;obtain⟨o1,o2,o3⟩:=sh2;refine W.fn (s:=fnOf Tryz.f65) rfl rfl rfl rfl ?_;repeat (refine W.seq ?_)
 refine W.region ?_;refine W.box rfl rfl rfl λH1 X1 n1 g1 L1=> ?_;refine W.box rfl rfl rfl λH2 X2 n2 g2 L2=> ?_;have L1:=L1.ext X2;have Y2:=X1.trans X2;repeat refine W.g ?_
 refine W.call rfl rfl rfl (eql2_nt (Y2.fr fr) (p1.ext Y2) (q1.ext Y2) m1 o1 λG1 b V1 hb=> ?_);have U1:=Y2.trans V1;cases b
 ·repeat refine W.g ?_
  exact q _ false U1 (Iff.intro (λh=>by cases h) (λh=>absurd (hb.2 (by rw[h])) (λh=>by cases h)))
 have e1:=hb.1 rfl;clear hb;have L1:=L1.ext V1;have L2:=L2.ext V1;refine W.k3 2 3 9 λT=> ?_;repeat refine W.g ?_
 refine W.call rfl rfl rfl (eql2_int (U1.fr fr) (p2.ext U1) (q2.ext U1) m2 o2 λG2 b V2 hb=> ?_);have U2:=U1.trans V2;cases b
 ·repeat refine W.g ?_
  exact q _ false U2 (Iff.intro (λh=>by cases h) (λh=>absurd (hb.2 (by rw[h])) (λh=>by cases h)))
 have e2:=hb.1 rfl;clear hb;have L1:=L1.ext V2;have L2:=L2.ext V2;refine W.k4 2 3 10 15 λT=> ?_;repeat refine W.g ?_
 refine W.call rfl rfl rfl (eql2_int (U2.fr fr) (p3.ext U2) (q3.ext U2) m3 o3 λG3 b V3 hb=> ?_);have U3:=U2.trans V3;cases b
 ·repeat refine W.g ?_
  exact q _ false U3 (Iff.intro (λh=>by cases h) (λh=>absurd (hb.2 (by rw[h])) (λh=>by cases h)))
 have e3:=hb.1 rfl;clear hb;refine W.k2 17 22 λT=> ?_;repeat refine W.g ?_
 exact q _ true U3 (Iff.intro (λ_=>routeW_ext e1 e2 e3) (λ_=>rfl))
theorem eqlF2_route {h:Heap} {tm:Tm} {Q:R->Prop} {v w:CV} {l m:List RouteW} (fr:Fresh h) (s1:Sl h v l) (s2:Sl h w m) (hm:l.length<=1099511627776) (mr:∀r∈l,r.stops.length<=1099511627776/\r.rides.length<=1099511627776/\r.stays.length<=1099511627776) (hm2:m.length<=1099511627776) (mr2:∀r∈m,r.stops.length<=1099511627776/\r.rides.length<=1099511627776/\r.stays.length<=1099511627776) (q:∀h' (b:Bool),Ext h h'->(b=true↔l=m)->Q (.val (.bool b) h')):W E1 (.call (.fn 70 [] []) [v,w,.fn 65 [] []]) tm h Q:=by
 refine W.fn (s:=fnOf Tryz.f70) rfl rfl rfl rfl ?_;by_cases c0:l.length=m.length
 case neg=>
  have c0':¬(l.length:Int)=(m.length:Int):=by omega
  repeat refine W.g ?_
  exact q _ false (Ext.refl _) (Iff.intro (λh=>by cases h) (λh=>absurd (by rw[h]) c0))
 have c0':(l.length:Int)=(m.length:Int):=by omega
 repeat refine W.g ?_
 refine W.loop (σ:=Nat) (λk tm h'=>Ext h h'/\tm.look 1=w/\tm.look 2= .fn 65 [] []/\tm.look 15=v/\tm.look 16= .int .i64 (l.length:Int)/\tm.look 17= .int .i64 (k:Int)/\k<=l.length/\∀j:Nat,j<k->l[j]? =m[j]?) (λk=>l.length-k) ?_ (s:=0) ⟨Ext.refl _,rfl,rfl,rfl,rfl,rfl,Nat.zero_le _,λj hj=>by omega⟩;rintro k tm h' ⟨X,w1,w2,w15,w16,w17,hk,hl⟩;obtain⟨T,rfl⟩:=Tm.t5 w1 w2 w15 w16 w17;clear w1 w2 w15 w16 w17;by_cases c1:k<l.length
 ·have c2:k<m.length:=by omega
  repeat refine W.g ?_
  refine W.ixR s1 c1 rfl rfl rfl rfl rfl rfl rfl λi_ o_ e1 L_ re1=> ?_;have hl1:=Rp.len re1;have re10:=re1;obtain⟨c1',c2',c3',rfl,_,_,_⟩:=re1;repeat (first|refine W.g ?_|refine W.m λh_ X_ n_ g_ L_=> ?_)
  refine W.stn (vs:=[c1',c2',c3']) (cs':=[c1',c2',c3']) rfl rfl rfl rfl rfl rfl g_ rfl λP nP gP kP=> ?_;have XP:Ext h' P:=Ext.store X_ nP kP (Nat.le_refl _) (by omega);have g6:P.get h'.next=some (.cells [c1',c2',c3'] false):=gP;have L6:LocE P h'.next 0 [c1',c2',c3']:=⟨_,_,g6,by omega,rfl⟩;have XhP:Ext h P:=X.trans XP;clear L_ g_ X_ kP gP g6;refine W.k7 1 2 8 15 16 17 7 λT=> ?_;repeat refine W.g ?_
  refine W.ixR s2 c2 rfl rfl rfl rfl rfl rfl rfl λi_ o_ e2 L_ re2=> ?_;have hl2:=Rp.len re2;have re20:=re2;obtain⟨d1',d2',d3',rfl,_,_,_⟩:=re2;repeat (first|refine W.g ?_|refine W.m λh_ X_ n_ g_ L_=> ?_)
  have Z:=XhP.trans X_;refine W.call rfl rfl rfl (routeWEq2_w (Z.fr fr) (Rp.ext Z re10) (Rp.ext Z re20) (mr _ (List.getElem_mem c1)) (mr2 _ (List.getElem_mem c2)) λG b V hb=> ?_);cases b
  ·repeat refine W.g ?_
   exact q _ false (Z.trans V) (Iff.intro (λh=>by cases h) (λh=>absurd (hb.2 (by subst h;rfl)) (λh=>by cases h)))
  have d1:=hb.1 rfl;clear hb;refine W.k6 1 2 15 16 17 29 λT=> ?_;repeat refine W.g ?_
  exact⟨k+1,lessN c1,Z.trans V,rfl,rfl,rfl,rfl,rfl,c1,λj hj=>by
   by_cases e:j=k
   ·rw[e,List.getElem?_eq_getElem c1,List.getElem?_eq_getElem c2,d1]
   ·exact hl j (by omega)⟩
 ·repeat refine W.g ?_
  exact q _ true X (Iff.intro (λ_=>list_same c0 λj hj=>hl j (by omega)) (λ_=>rfl))
end
end Go.Proofs.YtmgpjfnlciapkaaGreatDoor

namespace Go.Proofs.YtmgpjfnlciapkaaGreatDoor
open Go Go.CM Go.CM.Tt
noncomputable section
set_option maxHeartbeats 16000000
set_option maxRecDepth 100000
theorem wsame2_w {h:Heap} {tm:Tm} {Q:R->Prop} {ca cb:List CV} {w u:WorldD} (fr:Fresh h) (ra:Rp.R h ca w) (rb:Rp.R h cb u) (sh:w.short) (sh2:u.short) (q:∀h' (b:Bool),Ext h h'->(b=true↔w=u)->Q (.val (.bool b) h')):W E1 (.call (.fn 21 [] []) [.agg ca,.agg cb]) tm h Q:=by
 obtain⟨a1,a2,a3,a4,a5,a6,a7,a8,a9,a10,a11,rfl,p1,p2,p3,p4,p5,p6,p7,p8,p9,p10,p11⟩:=ra;obtain⟨b1,b2,b3,b4,b5,b6,b7,b8,b9,b10,b11,rfl,q1,q2,q3,q4,q5,q6,q7,q8,q9,q10,q11⟩:=rb;obtain⟨m1,m2,m3,m4,m5,m6,m7,m8,m9,m10,m11,mr⟩:=sh;obtain⟨o1,o2,o3,o4,o5,o6,o7,o8,o9,o10,o11,orr⟩:=sh2;refine W.fn (s:=fnOf Tryz.f21) rfl rfl rfl rfl ?_;repeat (refine W.seq ?_)
 refine W.region ?_;refine W.box rfl rfl rfl λH1 X1 n1 g1 L1=> ?_;refine W.box rfl rfl rfl λH2 X2 n2 g2 L2=> ?_;have L1:=L1.ext X2;have Y2:=X1.trans X2;repeat refine W.g ?_
 refine W.call rfl rfl rfl (kinds_w (Y2.fr fr) λH3 z X3 z1 z2 Lz=> ?_);have Y3:=Y2.trans X3;refine W.k4 2 3 4 10 λT=> ?_;repeat refine W.g ?_
 refine W.call rfl rfl rfl (kinds_w (Y3.fr fr) λH4 y X4 y1 y2 Ly=> ?_);have Y4:=Y3.trans X4;have nX3:=X3.next;have nX4:=X4.next;refine W.k5 2 3 4 10 12 λT=> ?_;repeat refine W.m λh_ X_ n_ g_ L_=> ?_
 rename_i K5 j5 n5 g5 l5;clear l5 L_;obtain⟨ps,hps⟩:∃ps:List CV,ps=[.ptr (some (z,0)),.ptr (some (h.next,0+1+0)),.ptr (some (h.next,0+1+1)),.ptr (some (h.next,0+1+2)),.ptr (some (h.next,0+1+3)),.ptr (some (h.next,0+1+4)),.ptr (some (h.next,0+1+5))]:=⟨_,rfl⟩;obtain⟨qs,hqs⟩:∃qs:List CV,qs=[.ptr (some (y,0)),.ptr (some (H1.next,0+1+0)),.ptr (some (H1.next,0+1+1)),.ptr (some (H1.next,0+1+2)),.ptr (some (H1.next,0+1+3)),.ptr (some (H1.next,0+1+4)),.ptr (some (H1.next,0+1+5))]:=⟨_,rfl⟩;have g5:=(X_.old H4.next (by omega)).trans g5;refine W.stn (vs:=ps) (cs':=ps) rfl rfl rfl (by rw[hps];rfl) rfl (by rw[hps];rfl) g5 (by rw[hps];rfl) λM4 m4' h4 k4=> ?_;refine W.stn (vs:=qs) (cs':=qs) rfl rfl rfl (by rw[hqs];rfl) rfl (by rw[hqs];rfl) ((k4 K5.next (by omega)).trans g_) (by rw[hqs];rfl) λM m5' h5 k5=> ?_;have JM:Ext H4 M:=Ext.store (Ext.store (j5.trans X_) m4' k4 (by omega) (by omega)) m5' k5 (by omega) (by omega);have A5:LocE M H4.next 0 ps:=⟨_,_,(k5 _ (by omega)).trans h4,by omega,by rw[hps];rfl⟩;have A6:LocE M K5.next 0 qs:=⟨_,_,h5,by omega,by rw[hqs];rfl⟩;have YM:Ext h M:=Y4.trans JM;have L1:=((L1.ext X3).ext X4).ext JM;have L2:=((L2.ext X3).ext X4).ext JM;have Lz:=(Lz.ext X4).ext JM;have Ly:=Ly.ext JM;obtain⟨lists,hlists⟩:∃lists,lists=w.names.lists:=⟨_,rfl⟩
 have lsh:∀k,(lists.getD k []).length<=1099511627776:=λk=>by
  rw[hlists];rcases k with _|_|_|_|_|_|_|k<;>first|assumption|(show 0<=_;omega)
 obtain⟨lists2,hlists2⟩:∃lists2,lists2=u.names.lists:=⟨_,rfl⟩
 have lsh2:∀k,(lists2.getD k []).length<=1099511627776:=λk=>by
  rw[hlists2];rcases k with _|_|_|_|_|_|_|k<;>first|assumption|(show 0<=_;omega)
 have fam:∀k,k<7->∃p o v,ps[k]? =some (.ptr (some (p,o)))/\LocE M p o [v]/\Sl M v (lists.getD k []):=by
  intro k hk;rw[hps,hlists];rcases k with _|_|_|_|_|_|_|k
  ·exact⟨z,0,_,rfl,Lz,Sl.nil⟩
  ·exact⟨h.next,0+1+0,a1,rfl,LocE.sub (k:=1) (m:=1) L1 rfl,p1.ext YM⟩
  ·exact⟨h.next,0+1+1,a2,rfl,LocE.sub (k:=2) (m:=1) L1 rfl,p2.ext YM⟩
  ·exact⟨h.next,0+1+2,a3,rfl,LocE.sub (k:=3) (m:=1) L1 rfl,p3.ext YM⟩
  ·exact⟨h.next,0+1+3,a4,rfl,LocE.sub (k:=4) (m:=1) L1 rfl,p4.ext YM⟩
  ·exact⟨h.next,0+1+4,a5,rfl,LocE.sub (k:=5) (m:=1) L1 rfl,p5.ext YM⟩
  ·exact⟨h.next,0+1+5,a6,rfl,LocE.sub (k:=6) (m:=1) L1 rfl,p6.ext YM⟩
  ·omega
 have fam2:∀k,k<7->∃p o v,qs[k]? =some (.ptr (some (p,o)))/\LocE M p o [v]/\Sl M v (lists2.getD k []):=by
  intro k hk;rw[hqs,hlists2];rcases k with _|_|_|_|_|_|_|k
  ·exact⟨y,0,_,rfl,Ly,Sl.nil⟩
  ·exact⟨H1.next,0+1+0,b1,rfl,LocE.sub (k:=1) (m:=1) L2 rfl,q1.ext YM⟩
  ·exact⟨H1.next,0+1+1,b2,rfl,LocE.sub (k:=2) (m:=1) L2 rfl,q2.ext YM⟩
  ·exact⟨H1.next,0+1+2,b3,rfl,LocE.sub (k:=3) (m:=1) L2 rfl,q3.ext YM⟩
  ·exact⟨H1.next,0+1+3,b4,rfl,LocE.sub (k:=4) (m:=1) L2 rfl,q4.ext YM⟩
  ·exact⟨H1.next,0+1+4,b5,rfl,LocE.sub (k:=5) (m:=1) L2 rfl,q5.ext YM⟩
  ·exact⟨H1.next,0+1+5,b6,rfl,LocE.sub (k:=6) (m:=1) L2 rfl,q6.ext YM⟩
  ·omega
 have frM:=YM.fr fr;obtain⟨d5,hd5⟩:∃d5,d5=H4.next:=⟨_,rfl⟩;obtain⟨d6,hd6⟩:∃d6,d6=K5.next:=⟨_,rfl⟩;rw[<-hd5]at A5 ⊢;rw[<-hd6]at A6 ⊢;clear Lz Ly g5 g_ X_ j5 h4 h5 k4 k5;refine W.k5 2 3 4 5 6 λT=> ?_;repeat refine W.g ?_
 refine W.loop (σ:=Nat) (λk tm h'=>Ext M h'/\tm.look 2= .ptr (some (h.next,0))/\tm.look 3= .ptr (some (H1.next,0))/\tm.look 5= .ptr (some (d5,0))/\tm.look 6= .ptr (some (d6,0))/\tm.look 13= .int .i64 (k:Int)/\k<=7/\∀j:Nat,j<k->lists.getD j []=lists2.getD j []) (λk=>7-k) ?_ (s:=0) ⟨Ext.refl _,rfl,rfl,rfl,rfl,rfl,Nat.zero_le _,λj hj=>by omega⟩;rintro k tm h' ⟨X,w2,w3,w5,w6,w13,hk,hl⟩;obtain⟨T,rfl⟩:=Tm.t5 w2 w3 w5 w6 w13;clear w2 w3 w5 w6 w13;by_cases c1:k<7
 ·obtain⟨pi,po,v,hp1,Lp,sv⟩:=fam k c1
  obtain⟨qi,qo,v2,hp2,Lq,sv2⟩:=fam2 k c1;repeat refine W.g ?_
  have ds:=DX.start (X.fr frM);repeat refine W.gd ?_
  refine W.dixp rfl rfl rfl rfl rfl rfl rfl (place_of (j:=k) rfl c1) ?_;refine W.dlk A5 ds X rfl rfl rfl rfl rfl rfl hp1 λr1 J1 ds1 s1=> ?_;repeat (first|refine W.gd ?_|refine W.e λr_ h_ ds_ s_=> ?_)
  refine W.dixp rfl rfl rfl rfl rfl rfl rfl (place_of (j:=k) rfl c1) ?_;refine W.dlk A6 ds_ X rfl rfl rfl rfl rfl rfl hp2 λr2 J2 ds2 s2=> ?_;clear ds_ ds1 ds;repeat (first|refine W.gd ?_|refine W.e λr_ h_ ds_ s_=> ?_)
  have XX:=X.trans ds_.x;refine W.dcallZ ds_ rfl rfl rfl rfl (eql2_str (XX.fr frM) (sv.ext XX) (sv2.ext XX) (lsh k) (lsh2 k) λh1 b Y1 hb=>DZ.val Y1 λr1 h1' ds1 s1'=> ?_);cases b
  ·repeat refine W.gd ?_
   repeat refine W.g ?_
   exact q _ false (YM.trans (X.trans ds1.x)) (Iff.intro (λh=>by cases h) (λh=>absurd (hb.2 (by rw[hlists,hlists2,h])) (λh=>by cases h)))
  have d1:=hb.1 rfl;repeat refine W.gd ?_
  repeat refine W.g ?_
  exact⟨k+1,by show 7-(k+1)<7-k;omega,X.trans ds1.x,rfl,rfl,rfl,rfl,rfl,c1,λj hj=>by
   by_cases e:j=k
   ·rw[e];exact d1
   ·exact hl j (by omega)⟩
 ·have ek:k=7:=by omega
  subst ek;rw[hlists,hlists2]at hl;have e1:w.names.stops=u.names.stops:=hl 1 (by omega);have e2:w.names.paths=u.names.paths:=hl 2 (by omega);have e3:w.names.doors=u.names.doors:=hl 3 (by omega);have e4:w.names.routes=u.names.routes:=hl 4 (by omega);have e5:w.names.trips=u.names.trips:=hl 5 (by omega);have e6:w.names.hazards=u.names.hazards:=hl 6 (by omega);have YK0:=YM.trans X;by_cases ez:w.hz=u.hz
  case neg=>
   repeat refine W.g ?_
   exact q _ false YK0 (Iff.intro (λh=>by cases h) (λh=>absurd (by rw[h]) ez))
  repeat refine W.g ?_
  obtain⟨K,hK⟩:∃K,K=h':=⟨_,rfl⟩;have YK:=YM.trans X;have L1:=L1.ext X;have L2:=L2.ext X;rw[<-hK]at YK L1 L2 ⊢;clear A5 A6;refine W.call rfl rfl rfl (eql2_path (YK.fr fr) (p7.ext YK) (q7.ext YK) m7 o7 λG0 b V0 hb=> ?_);have U0:=YK.trans V0;cases b
  ·repeat refine W.g ?_
   exact q _ false U0 (Iff.intro (λh=>by cases h) (λh=>absurd (hb.2 (by rw[h])) (λh=>by cases h)))
  have e7:=hb.1 rfl;clear hb;have L1:=L1.ext V0;have L2:=L2.ext V0;refine W.k5 2 3 8 34 39 λT=> ?_;repeat refine W.g ?_
  refine W.call rfl rfl rfl (eql2_door (U0.fr fr) (p8.ext U0) (q8.ext U0) m8 o8 λG1 b V1 hb=> ?_);have U1:=U0.trans V1;cases b
  ·repeat refine W.g ?_
   exact q _ false U1 (Iff.intro (λh=>by cases h) (λh=>absurd (hb.2 (by rw[h])) (λh=>by cases h)))
  have e8:=hb.1 rfl;clear hb;have L1:=L1.ext V1;have L2:=L2.ext V1;refine W.k5 2 3 8 41 46 λT=> ?_;repeat refine W.g ?_
  refine W.call rfl rfl rfl (eqlF2_route (U1.fr fr) (p9.ext U1) (q9.ext U1) m9 mr o9 orr λG2 b V2 hb=> ?_);have U2:=U1.trans V2;cases b
  ·repeat refine W.g ?_
   exact q _ false U2 (Iff.intro (λh=>by cases h) (λh=>absurd (hb.2 (by rw[h])) (λh=>by cases h)))
  have e9:=hb.1 rfl;clear hb;have L1:=L1.ext V2;have L2:=L2.ext V2;refine W.k4 2 3 48 54 λT=> ?_;repeat refine W.g ?_
  refine W.call rfl rfl rfl (eql2_trip (U2.fr fr) (p10.ext U2) (q10.ext U2) m10 o10 λG3 b V3 hb=> ?_);have U3:=U2.trans V3;cases b
  ·repeat refine W.g ?_
   exact q _ false U3 (Iff.intro (λh=>by cases h) (λh=>absurd (hb.2 (by rw[h])) (λh=>by cases h)))
  have e10:=hb.1 rfl;clear hb;have L1:=L1.ext V3;have L2:=L2.ext V3;refine W.k4 2 3 56 61 λT=> ?_;repeat refine W.g ?_
  refine W.call rfl rfl rfl (eql2_haz (U3.fr fr) (p11.ext U3) (q11.ext U3) m11 o11 λG4 b V4 hb=> ?_);have U4:=U3.trans V4;cases b
  ·repeat refine W.g ?_
   exact q _ false U4 (Iff.intro (λh=>by cases h) (λh=>absurd (hb.2 (by rw[h])) (λh=>by cases h)))
  have e11:=hb.1 rfl;clear hb;have L1:=L1.ext V4;have L2:=L2.ext V4;refine W.k2 63 68 λT=> ?_;repeat refine W.g ?_
  exact q _ true U4 (Iff.intro (λ_=>world_ext ez e1 e2 e3 e4 e5 e6 e7 e8 e9 e10 e11) (λ_=>rfl))
end
end Go.Proofs.YtmgpjfnlciapkaaGreatDoor
