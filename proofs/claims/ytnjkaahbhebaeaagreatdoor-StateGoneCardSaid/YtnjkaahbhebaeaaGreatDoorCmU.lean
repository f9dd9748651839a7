/- Drawn regions: what a listed set says, and one operation more. No condition. -/
import Derived.Test.YtnjkaahbhebaeaaGreatDoorCmQ
import Derived.ChangeShapes
import Derived.OpenShut
import Derived.RowKit
import Derived.FnData
import Derived.MakeChecks
import GoSem.ClaimJoined
set_option linter.unusedVariables false
set_option linter.unusedSimpArgs false
noncomputable section
namespace Go.CM
def dstOf (all:List Oper) (j:Nat):Option Nat:=match all[j]? with
 |some o=>o.dst
 |none=>none
structure Drawn (P:Program) (E:Env) (all:List Oper) (ev:Nat->Ev) (tm:Nat->Tm) (hp:Nat->Heap):Prop where
 fact:∀j o,all[j]? =some o->Fact P E all o (tm j) (hp j) (ev j) (tm (j+1)) (hp (j+1))
 pair:∀j o,all[j]? =some o->∀j',j'<j->j'∈(((aheads all [])[j]?).getD Bits.nil)\/Apart (ev j') (ev j)
 ok:drawOk all=true
structure Rdy (all:List Oper) (L:Nat->Bool) (i:Nat):Prop where
 un:L i=false
 pre:∀j∈(((aheads all [])[i]?).getD Bits.nil),L j=true
 post:∀j,L j=true->i∉(((aheads all [])[j]?).getD Bits.nil)
def add (L:Nat->Bool) (i:Nat):Nat->Bool:=λj=>decide (j=i)||L j
theorem add_same (L:Nat->Bool) (i:Nat):add L i i=true:=by simp[add]
theorem add_other (L:Nat->Bool) {i j:Nat} (h:j≠i):add L i j=L j:=by simp[add,h]
def HS (ev:Nat->Ev) (h0:Heap) (N:Nat) (L:Nat->Bool) (k:Nat):Option Blk×Nat:=
 last L (λj=>(ev j).T k) (λj=>((ev j).d'.get k,(ev j).d'.next)) (h0.get k,h0.next) N
def TS (ev:Nat->Ev) (all:List Oper) (tmps0:Tm) (h0:Heap) (L:Nat->Bool) (t:Nat):Option CV×Nat:=
 last L (λj=>dstOf all j=some t) (λj=>(some (ev j).v,(ev j).d'.next)) (tmps0.get t,h0.next) all.length
theorem last_fst {α β:Type} {S:Nat->Bool} {T:Nat->Prop} {v:Nat->α×β} {b:α×β}:∀n,(last S T v b n).1=last S T (λj=>(v j).1) b.1 n
 |0=>rfl
 |n+1=>by
  simp only[last];split
  ·rfl
  ·exact last_fst n
section
variable {P:Program} {E:Env} {all:List Oper} {ev:Nat->Ev} {tm:Nat->Tm} {hp:Nat->Heap} {L:Nat->Bool} {i:Nat} {o:Oper}
theorem Drawn.next_le (D:Drawn P E all ev tm hp) {i:Nat}:∀{j:Nat},i<=j->j<=all.length->(hp i).next<=(hp j).next
 |0,h,_=>by have:i=0:=by omega
            subst this;exact Nat.le_refl _
 |j+1,h,hj=>by
  by_cases e:i=j+1
  ·subst e;exact Nat.le_refl _
  ·exact Nat.le_trans (D.next_le (j:=j) (by omega) (by omega)) (D.fact j all[j] (List.getElem?_eq_getElem (by omega))).le
theorem Drawn.lo (D:Drawn P E all ev tm hp) (h:i<all.length):(ev i).d.next=(hp i).next:=(D.fact i all[i] (List.getElem?_eq_getElem h)).next
theorem Drawn.hi (D:Drawn P E all ev tm hp) (h:i<all.length):(ev i).d'.next=(hp (i+1)).next:=(D.fact i all[i] (List.getElem?_eq_getElem h)).next'.symm
theorem lt_of {o:Oper} (h:all[i]? =some o):i<all.length:=(List.getElem?_eq_some_iff.1 h).1
theorem Drawn.tmp_pair (D:Drawn P E all ev tm hp) {j i:Nat} {x y:Oper} (hx:all[j]? =some x) (hy:all[i]? =some y) (h:j<i):
  j∈(((aheads all [])[i]?).getD Bits.nil)\/((∀t,x.dst=some t->t∉looksAt all y)/\(∀t,y.dst=some t->t∉looksAt all x)/\(∀t,x.dst=some t->y.dst≠some t)):=by
 have ok:=D.ok;unfold drawOk at ok;rw[Bool.and_eq_true]at ok;have h1:=tmpsOk_spec all 0 ok.2 i y hy;rw[Nat.zero_add]at h1;have h2:=tmpPairs_spec all 0 i h1 j x h hx;rw[Nat.zero_add]at h2;refine h2.imp id λh3=> ?_;unfold tmpPair at h3;rw[Bool.and_eq_true,Bool.and_eq_true,noMem_iff,noMem_iff,neDst_iff]at h3;exact⟨h3.1.1,h3.1.2,h3.2⟩
theorem Drawn.heap_at (D:Drawn P E all ev tm hp) {h0:Heap} (ho:all[i]? =some o) (R:Rdy all L i) {k:Nat} (hk:(ev i).d.get k≠none):HS ev h0 all.length L k=HS ev h0 all.length (λj=>decide (j<i)) k:=by
 refine last_congr λj hj hT=> ?_;rcases Nat.lt_trichotomy j i with h|h|h
 ·rcases D.pair i o ho j h with hh|hh
  ·rw[R.pre j hh];simp[h]
  ·exact absurd (hh.l k hT) hk
 ·subst h;rw[R.un];simp
 ·rcases D.pair j all[j] (List.getElem?_eq_getElem hj) i h with hh|hh
  ·cases hl:L j with
   |true=>exact absurd hh (R.post j hl)
   |false=>simp;omega
  ·exact absurd (hh.r k hT) hk
theorem Drawn.heap_val (D:Drawn P E all ev tm hp) (hi:i<=all.length) (k:Nat):(HS ev (hp 0) all.length (λj=>decide (j<i)) k).1=(hp i).get k:=by
 unfold HS;rw[last_fst];exact last_chain (X:=λj=>(hp j).get k) (N:=all.length) rfl (λj hj=>(D.fact j all[j] (List.getElem?_eq_getElem hj)).get k) (Nat.le_refl _) hi
theorem Drawn.heap_lev (D:Drawn P E all ev tm hp) (hi:i<=all.length) (k:Nat):(HS ev (hp 0) all.length (λj=>decide (j<i)) k).2<=(hp i).next:=by
 refine last_prop (p:=λx:_×Nat=>x.2<=(hp i).next) (D.next_le (Nat.zero_le _) hi) λj hj hs _=> ?_;simp only[decide_eq_true_eq]at hs;show(ev j).d'.next<=_;rw[D.hi hj];exact D.next_le (by omega) hi
theorem Drawn.heap_put (D:Drawn P E all ev tm hp) {h0:Heap} (ho:all[i]? =some o) (R:Rdy all L i) {k:Nat} (hT:(ev i).T k):HS ev h0 all.length (add L i) k=((ev i).d'.get k,(ev i).d'.next):=by
 refine last_at (v:=λj=>((ev j).d'.get k,(ev j).d'.next)) (add_same L i) hT (lt_of ho) λj h1 h2 hs hT2=> ?_;rw[add_other L (by omega)]at hs;rcases D.pair j all[j] (List.getElem?_eq_getElem h2) i h1 with hh|hh
 ·exact R.post j hs hh
 ·exact hh.n k hT hT2
theorem heap_same {h0:Heap} {N:Nat} {k:Nat} (hT:¬(ev i).T k):HS ev h0 N (add L i) k=HS ev h0 N L k:=by
 refine last_congr λj _ hj=> ?_;by_cases e:j=i
 ·subst e;exact absurd hj hT
 ·exact add_other L e
theorem dstOf_eq {j:Nat} {x:Oper} (h:all[j]? =some x):dstOf all j=x.dst:=by unfold dstOf;rw[h]
theorem Drawn.tmp_at (D:Drawn P E all ev tm hp) {h0:Heap} {t0:Tm} (ho:all[i]? =some o) (R:Rdy all L i) {t:Nat} (ht:t∈looksAt all o):TS ev all t0 h0 L t=TS ev all t0 h0 (λj=>decide (j<i)) t:=by
 refine last_congr λj hj hT=> ?_;have hx:=List.getElem?_eq_getElem hj;rw[dstOf_eq hx]at hT;rcases Nat.lt_trichotomy j i with h|h|h
 ·rcases D.tmp_pair hx ho h with hh|hh
  ·rw[R.pre j hh];simp[h]
  ·exact absurd ht (hh.1 t hT)
 ·subst h;rw[R.un];simp
 ·rcases D.tmp_pair ho hx h with hh|hh
  ·cases hl:L j with
   |true=>exact absurd hh (R.post j hl)
   |false=>simp;omega
  ·exact absurd ht (hh.2.1 t hT)
theorem Drawn.tmp_val (D:Drawn P E all ev tm hp) {h0:Heap} (hi:i<=all.length) (t:Nat):(TS ev all (tm 0) h0 (λj=>decide (j<i)) t).1=(tm i).get t:=by
 unfold TS;rw[last_fst];refine last_chain (X:=λj=>(tm j).get t) (N:=all.length) rfl (λj hj=> ?_) (Nat.le_refl _) hi;have hx:=List.getElem?_eq_getElem hj;rw[dstOf_eq hx];have:=(D.fact j all[j] hx).tmps;rw[this];generalize all[j].dst=dj;cases dj with
 |none=>exact⟨(λh=>by cases h),λ_=>rfl⟩
 |some d=>
  simp only[putTmp,Tm.get_set,Option.some.injEq];exact⟨(λh=>by rw[if_pos h]),(λh=>by rw[if_neg h])⟩
theorem Drawn.tmp_lev (D:Drawn P E all ev tm hp) {t0:Tm} (hi:i<=all.length) (t:Nat):(TS ev all t0 (hp 0) (λj=>decide (j<i)) t).2<=(hp i).next:=by
 refine last_prop (p:=λx:_×Nat=>x.2<=(hp i).next) (D.next_le (Nat.zero_le _) hi) λj hj hs _=> ?_;simp only[decide_eq_true_eq]at hs;show(ev j).d'.next<=_;rw[D.hi hj];exact D.next_le (by omega) hi
theorem Drawn.tmp_put (D:Drawn P E all ev tm hp) {h0:Heap} {t0:Tm} (ho:all[i]? =some o) (R:Rdy all L i) {t:Nat} (ht:o.dst=some t):TS ev all t0 h0 (add L i) t=(some (ev i).v,(ev i).d'.next):=by
 refine last_at (v:=λj=>(some (ev j).v,(ev j).d'.next)) (add_same L i) ((dstOf_eq ho).trans ht) (lt_of ho) λj h1 h2 hs hT2=> ?_;rw[add_other L (by omega)]at hs;have hx:=List.getElem?_eq_getElem h2;rw[dstOf_eq hx]at hT2;rcases D.tmp_pair ho hx h1 with hh|hh
 ·exact R.post j hs hh
 ·exact hh.2.2 t ht hT2
theorem tmp_same {h0:Heap} {t0:Tm} (ho:all[i]? =some o) {t:Nat} (ht:o.dst≠some t):TS ev all t0 h0 (add L i) t=TS ev all t0 h0 L t:=by
 refine last_congr λj _ hj=> ?_;by_cases e:j=i
 ·subst e;rw[dstOf_eq ho]at hj;exact absurd hj ht
 ·exact add_other L e
structure Inv (n:Nat) (ds:List Deferred) (all:List Oper) (ev:Nat->Ev) (tmps0:Tm) (h0:Heap) (ρ0:Rho) (w0:World) (L:Nat->Bool) (ρ:Rho) (a:Act) (w:World):Prop where
 ext:∀i,i<h0.next->ρ i=ρ0 i/\ρ.room i=ρ0.room i
 blk:∀k b,(HS ev h0 all.length L k).1=some b->∃c d,restr ρ (HS ev h0 all.length L k).2 k=some (c,d)/\BlkRel (restr ρ (HS ev h0 all.length L k).2) w c d (ρ.room k) b
 inj:∀i j k d e b c,(HS ev h0 all.length L i).1=some b->(HS ev h0 all.length L j).1=some c->(b.ro=false\/c.ro=false)->ρ i=some (k,d)->ρ j=some (k,e)->i=j
 lt:∀i k d,ρ i=some (k,d)->k<w.heap.size
 dom:∀k,h0.next<=k->ρ k≠none->∃j,j<all.length/\L j=true/\(ev j).d.next<=k/\k<(ev j).d'.next
 keep:Keep (LiveW ρ0 h0) w0 w
 ownW:∀b,(∃k d c,(HS ev h0 all.length L k).1=some c/\c.ro=false/\ρ k=some (b,d))->w0.heap.size<=b\/LiveW ρ0 h0 b
 own:∀b,(∃k d,(HS ev h0 all.length L k).1≠none/\ρ k=some (b,d))->w0.heap.size<=b\/Live ρ0 h0 b
 size:a.tmps.size=n
 defers:a.defers=ds
 tmp:∀t,VR (restr ρ (TS ev all tmps0 h0 L t).2) ((TS ev all tmps0 h0 L t).1.getD .undef) (a.tmps.getD t undef)
variable {n:Nat} {ds:List Deferred} {ρ0 ρ:Rho} {w0 w:World} {a:Act}
theorem Drawn.heap_d (D:Drawn P E all ev tm hp) (ho:all[i]? =some o) (R:Rdy all L i) {k:Nat} {b:Blk} (hb:(ev i).d.get k=some b):
  (HS ev (hp 0) all.length L k).1=some b/\(HS ev (hp 0) all.length L k).2<=(hp i).next:=by
 rw[D.heap_at ho R (by rw[hb];simp)];refine⟨?_,D.heap_lev (by have:=lt_of ho;omega) k⟩;rw[D.heap_val (by have:=lt_of ho;omega) k];exact(D.fact i o ho).sub k b hb
theorem Drawn.hr (D:Drawn P E all ev tm hp) (ho:all[i]? =some o) (R:Rdy all L i) (I:Inv n ds all ev (tm 0) (hp 0) ρ0 w0 L ρ a w):HR (restr ρ (hp i).next) (ev i).d w:=by
 refine⟨λk b hb=> ?_,λx y k d e bx cy hx hy hn h1 h2=> ?_,λk hk=> ?_,λx k d hx=>I.lt x k d (restr_some hx).2⟩
 ·obtain⟨h1,h2⟩:=D.heap_d ho R hb
  obtain⟨c,d,h3,h4⟩:=I.blk k b h1;exact⟨c,d,(restr_le ρ h2 _ _ h3).1,h4.later (restr_le ρ h2) rfl⟩
 ·exact I.inj x y k d e bx cy (D.heap_d ho R hx).1 (D.heap_d ho R hy).1 hn (restr_some h1).2 (restr_some h2).2
 ·rw[(D.fact i o ho).next]at hk
  exact restr_ge hk
theorem Drawn.operand (D:Drawn P E all ev tm hp) (ho:all[i]? =some o) (R:Rdy all L i) (I:Inv n ds all ev (tm 0) (hp 0) ρ0 w0 L ρ a w) {t:Nat} (ht:t∈looksAt all o):VR (restr ρ (hp i).next) (((tm i).get t).getD .undef) (a.tmps.getD t undef):=by
 have h:=I.tmp t;have hi:=lt_of ho;rw[D.tmp_at ho R ht,D.tmp_val (by omega)]at h;exact h.mono (restr_le ρ (D.tmp_lev (by omega) t))
theorem Drawn.gr (D:Drawn P E all ev tm hp) (ho:all[i]? =some o) (I:Inv n ds all ev (tm 0) (hp 0) ρ0 w0 L ρ a w) (g:GR E ρ0 (hp 0)):GR E (restr ρ (hp i).next) (ev i).d:=by
 have hi:=lt_of ho;have hle:=D.next_le (Nat.zero_le i) (by omega);refine⟨λx hx=> ?_,by rw[(D.fact i o ho).next];exact Nat.le_trans g.next hle⟩;have:=g.next;rw[restr_lt (by omega),(I.ext x (by omega)).1];exact g.glob x hx
theorem Drawn.step (D:Drawn P E all ev tm hp) (ho:all[i]? =some o) (R:Rdy all L i) (hd:∀d,o.dst=some d->d<n) (I:Inv n ds all ev (tm 0) (hp 0) ρ0 w0 L ρ a w) {ρ':Rho} {x:Value} {w':World}
  (j:J (restr ρ (hp i).next) (ev i).d w ρ' (ev i).d' w') (hv:VR ρ' (ev i).v x):∃ρ2,Inv n ds all ev (tm 0) (hp 0) ρ0 w0 (add L i) ρ2 (a.put o.dst x) w':=by
 have hi:=lt_of ho;have hlo:=D.lo hi;have hhi:=D.hi hi;have hle:(hp i).next<=(hp (i+1)).next:=D.next_le (by omega) (by omega);have hbase:(hp 0).next<=(hp i).next:=D.next_le (Nat.zero_le i) (by omega)
 have unused:∀k,(hp i).next<=k->k<(hp (i+1)).next->ρ k=none:=by
  intro k h1 h2;rcases Classical.em (ρ k=none)with h|h
  ·exact h
  ·exfalso
   obtain⟨y,y1,y2,y3,y4⟩:=I.dom k (by omega) h;rw[D.lo y1]at y3;rw[D.hi y1]at y4;rcases Nat.lt_trichotomy y i with hh|hh|hh
   ·have:=D.next_le (i:=y+1) (j:=i) (by omega) (by omega)
    omega
   ·subst hh;rw[R.un]at y2;cases y2
   ·have:=D.next_le (i:=i+1) (j:=y) (by omega) (by omega)
    omega
 let ρ2:Rho:=⟨λk=>if(hp i).next<=k/\k<(hp (i+1)).next then ρ' k else ρ k,λk=>if(hp i).next<=k/\k<(hp (i+1)).next then ρ'.room k else ρ.room k⟩
 have in2:∀k,(hp i).next<=k->k<(hp (i+1)).next->ρ2 k=ρ' k/\ρ2.room k=ρ'.room k:=λk h1 h2=>⟨if_pos ⟨h1,h2⟩,if_pos ⟨h1,h2⟩⟩;have out2:∀k,¬((hp i).next<=k/\k<(hp (i+1)).next)->ρ2 k=ρ k/\ρ2.room k=ρ.room k:=λk h=>⟨if_neg h,if_neg h⟩
 have s2:Sub ρ ρ2:=by
  intro k p hk;have:¬((hp i).next<=k/\k<(hp (i+1)).next):=λhh=>by rw[unused k hh.1 hh.2]at hk;cases hk
  rw[(out2 k this).1,(out2 k this).2];exact⟨hk,rfl⟩
 have s3:Sub ρ' (restr ρ2 (hp (i+1)).next):=by
  intro k p hk
  have hlt:k<(hp (i+1)).next:=by
   rcases Nat.lt_or_ge k (hp (i+1)).next with h|h
   ·exact h
   ·rw[j.hr.fresh k (by rw[hhi];exact h)]at hk;cases hk
  rw[restr_lt hlt];show ρ2 k=some p/\ρ2.room k=ρ'.room k;by_cases h:(hp i).next<=k
  ·rw[(in2 k h hlt).1,(in2 k h hlt).2]
   exact⟨hk,rfl⟩
  ·have e:=j.ext k (by rw[hlo];omega)
   rw[restr_lt (by omega)]at e;rw[(out2 k (λhh=>h hh.1)).1,(out2 k (λhh=>h hh.1)).2];exact⟨by rw[<-e.1];exact hk,e.2.symm⟩
 have s4:Sub (restr ρ (hp i).next) ρ':=J.sub (D.hr ho R I) j
 have dlive:∀k,(ev i).d.get k≠none->(HS ev (hp 0) all.length L k).1≠none:=by
  intro k hk;obtain⟨b,hb⟩:=Option.ne_none_iff_exists'.1 hk;rw[(D.heap_d ho R hb).1];simp
 have dk:∀k,(ev i).d.get k≠none->k<(hp i).next:=by
  intro k hk;obtain⟨b,hb⟩:=Option.ne_none_iff_exists'.1 hk;obtain⟨c,d,h1,_⟩:=(D.hr ho R I).blk k b hb;exact(restr_some h1).1
 have live:∀c,Live (restr ρ (hp i).next) (ev i).d c->∃k d,(ev i).d.get k≠none/\(HS ev (hp 0) all.length L k).1≠none/\ρ k=some (c,d):=by
  rintro c ⟨k,d,h1,h2⟩;exact⟨k,d,h1,dlive k h1,(restr_some h2).2⟩
 have liveW:∀c,LiveW (restr ρ (hp i).next) (ev i).d c->∃k d cc,(ev i).d.get k=some cc/\cc.ro=false/\(HS ev (hp 0) all.length L k).1=some cc/\ρ k=some (c,d):=by
  rintro c ⟨k,d,cc,h1,h2,h3⟩;exact⟨k,d,cc,h1,h2,(D.heap_d ho R h1).1,(restr_some h3).2⟩
 have val1:∀k,(ev i).d'.get k≠none->(HS ev (hp 0) all.length (add L i) k).1=(ev i).d'.get k:=by
  intro k hk;by_cases hT:(ev i).T k
  ·rw[D.heap_put ho R hT]
  ·rw[heap_same hT]
   have e:(ev i).d'.get k=(ev i).d.get k:=Classical.not_not.1 hT;rw[e]at hk ⊢;obtain⟨b,hb⟩:=Option.ne_none_iff_exists'.1 hk;rw[(D.heap_d ho R hb).1,hb]
 have both:∀k,(HS ev (hp 0) all.length (add L i) k).1≠none->((ev i).d'.get k≠none/\k<(hp (i+1)).next/\∃p,ρ' k=some p/\ρ2 k=some p)\/(¬(ev i).T k/\(ev i).d.get k=none/\(HS ev (hp 0) all.length L k).1≠none/\ρ2 k=ρ k/\ρ k≠none):=by
  intro k hk;by_cases h:(ev i).d'.get k=none
  ·right
   have hT:¬(ev i).T k:=by
    intro hT;rw[D.heap_put ho R hT]at hk;exact hk h
   rw[heap_same hT]at hk;have hd0:(ev i).d.get k=none:=by rw[<-Classical.not_not.1 hT];exact h
   refine⟨hT,hd0,hk,?_⟩;obtain⟨b,hb⟩:=Option.ne_none_iff_exists'.1 hk;obtain⟨c,d,h1,_⟩:=I.blk k b hb;have h1:=(restr_some h1).2;rw[(s2 k _ h1).1,h1];exact⟨rfl,by simp⟩
  ·left
   obtain⟨b,hb⟩:=Option.ne_none_iff_exists'.1 h;obtain⟨c,d,h1,_⟩:=j.hr.blk k b hb;have:=restr_some (s3 k _ h1).1;exact⟨h,this.1,(c,d),h1,this.2⟩
 refine⟨ρ2,⟨λk hk=> ?_,λk b hb=> ?_,λk1 k2 c d e b1 b2 h1 h2 hn g1 g2=> ?_,λk c d hk=> ?_,λk hk hne=> ?_,?_,λc hc=> ?_,λc hc=> ?_,?_,?_,λt=> ?_⟩⟩
 ·rw[(out2 k (by omega)).1,(out2 k (by omega)).2]
  exact I.ext k hk
 ·by_cases hT:(ev i).T k
  ·rw[D.heap_put ho R hT]at hb ⊢
   simp only at hb ⊢;obtain⟨c,d,h1,h2⟩:=j.hr.blk k b hb;rw[hhi];have h3:=s3 k _ h1;refine⟨c,d,h3.1,?_⟩;have h4:ρ2.room k=ρ'.room k:=h3.2;rw[h4];exact h2.later s3 rfl
  ·rw[heap_same hT]at hb ⊢
   obtain⟨c,d,h1,h2⟩:=I.blk k b hb;refine⟨c,d,(restr_mono s2 _ _ _ h1).1,?_⟩;have hroom:ρ2.room k=ρ.room k:=(s2 k _ (restr_some h1).2).2;rw[hroom];by_cases hdk:(ev i).d.get k=none
   ·
    have hsame:w'.heap[c]? =w.heap[c]? :=by
     refine j.keep.same c (I.lt k c d (restr_some h1).2) λhl=> ?_;obtain⟨k2,d2,cc,g1,gro,g2,g3⟩:=liveW c hl;have:=I.inj k k2 c d d2 b cc hb g2 (.inr gro) (restr_some h1).2 g3;subst this;rw[hdk]at g1;cases g1
    exact h2.later (restr_mono s2 _) hsame
   ·obtain⟨b',hb'⟩:=Option.ne_none_iff_exists'.1 hdk
    have hbb:=(D.heap_d ho R hb').1;rw[hb]at hbb;cases hbb;have hlev:=(D.heap_d ho R hb').2;have hd':(ev i).d'.get k=some b:=by rw[Classical.not_not.1 hT];exact hb'
    obtain⟨c',d',g1,g2⟩:=j.hr.blk k b hd';have hk':=s4 k _ (restr_le ρ hlev _ _ h1).1;rw[hk'.1]at g1;cases g1;rw[hk'.2]at g2;have h5:BlkRel (restr ρ (HS ev (hp 0) all.length L k).2) w' c d (ρ.room k) b:=h2.down (Sub.trans (restr_le ρ hlev) s4) g2;exact h5.later (restr_mono s2 _) rfl
 ·have cross:∀k1 k2 d e b1 b2,(HS ev (hp 0) all.length (add L i) k1).1=some b1->(HS ev (hp 0) all.length (add L i) k2).1=some b2->(b1.ro=false\/b2.ro=false)->
     ((ev i).d'.get k1≠none/\k1<(hp (i+1)).next/\∃p,ρ' k1=some p/\ρ2 k1=some p)->(¬(ev i).T k2/\(ev i).d.get k2=none/\(HS ev (hp 0) all.length L k2).1≠none/\ρ2 k2=ρ k2/\ρ k2≠none)->ρ2 k1=some (c,d)->ρ2 k2=some (c,e)->False:=by
    rintro k1 k2 d e b1 b2 hb1 hb2 hn ⟨h1,_,p,hp1,hp2⟩ ⟨y1,y2,y3,y4,y5⟩ g1 g2;rw[hp2]at g1;cases g1;rw[y4]at g2;rw[val1 k1 h1]at hb1;rw[heap_same y1]at hb2;rcases hn with hn|hn
    ·rcases j.ownW c ⟨k1,d,b1,hb1,hn,hp1⟩with h|h
     ·have:=I.lt k2 c e g2;omega
     ·obtain⟨k3,d3,cc,z1,z0,z2,z3⟩:=liveW c h
      have:=I.inj k3 k2 c d3 e cc b2 z2 hb2 (.inl z0) z3 g2;subst this;rw[y2]at z1;cases z1
    ·rcases j.own c ⟨k1,d,h1,hp1⟩with h|h
     ·have:=I.lt k2 c e g2;omega
     ·obtain⟨k3,d3,z1,z2,z3⟩:=live c h
      obtain⟨b3,z2⟩:=Option.ne_none_iff_exists'.1 z2;have:=I.inj k3 k2 c d3 e b3 b2 z2 hb2 (.inr hn) z3 g2;subst this;exact z1 y2
  rcases both k1 (by rw[h1];simp)with a1|a1<;>rcases both k2 (by rw[h2];simp)with a2|a2
  ·obtain⟨x1,_,p,hp1,hp2⟩:=a1
   obtain⟨y1,_,q,hq1,hq2⟩:=a2;rw[hp2]at g1;cases g1;rw[hq2]at g2;cases g2;rw[val1 k1 x1]at h1;rw[val1 k2 y1]at h2;exact j.hr.inj k1 k2 c d e b1 b2 h1 h2 hn hp1 hq1
  ·exact(cross k1 k2 d e b1 b2 h1 h2 hn a1 a2 g1 g2).elim
  ·exact(cross k2 k1 e d b2 b1 h2 h1 hn.symm a2 a1 g2 g1).elim
  ·rw[a1.2.2.2.1]at g1
   rw[a2.2.2.2.1]at g2;rw[heap_same a1.1]at h1;rw[heap_same a2.1]at h2;exact I.inj k1 k2 c d e b1 b2 h1 h2 hn g1 g2
 ·by_cases h:(hp i).next<=k/\k<(hp (i+1)).next
  ·rw[(in2 k h.1 h.2).1]at hk
   exact j.hr.lt k c d hk
  ·rw[(out2 k h).1]at hk
   exact Nat.lt_of_lt_of_le (I.lt k c d hk) j.keep.size
 ·by_cases h:(hp i).next<=k/\k<(hp (i+1)).next
  ·exact⟨i,hi,add_same L i,by rw[hlo];exact h.1,by rw[hhi];exact h.2⟩
  ·rw[(out2 k h).1]at hne
   obtain⟨y,y1,y2,y3⟩:=I.dom k hk hne;refine⟨y,y1,?_,y3⟩;simp[add,y2]
 ·refine⟨j.keep.os.trans I.keep.os,j.keep.out.trans I.keep.out,Nat.le_trans I.keep.size j.keep.size,λc hc hl=> ?_⟩
  rw[j.keep.same c (Nat.lt_of_lt_of_le hc I.keep.size) ?_,I.keep.same c hc hl];intro hl2;obtain⟨k,d,cc,_,g1,g2,g3⟩:=liveW c hl2;rcases I.ownW c ⟨k,d,cc,g2,g1,g3⟩with h|h
  ·omega
  ·exact hl h
 ·obtain⟨k,d,cc,h1,h0,h2⟩:=hc
  by_cases hT:(ev i).T k
  ·rw[D.heap_put ho R hT]at h1
   simp only at h1;obtain⟨c',d',g1,_⟩:=j.hr.blk k cc h1;have h3:=(restr_some (s3 k _ g1).1).2;rw[h3]at h2;cases h2;rcases j.ownW c ⟨k,d,cc,h1,h0,g1⟩with h|h
   ·exact .inl (Nat.le_trans I.keep.size h)
   ·obtain⟨k3,d3,cc3,_,z1,z2,z3⟩:=liveW c h
    exact I.ownW c ⟨k3,d3,cc3,z2,z1,z3⟩
  ·rw[heap_same hT]at h1
   obtain⟨c',d',g1,_⟩:=I.blk k cc h1;have g1:=(restr_some g1).2;have h3:=(s2 k _ g1).1;have h2:ρ2 k=some (c,d):=h2;rw[h3]at h2;cases h2;exact I.ownW c ⟨k,d,cc,h1,h0,g1⟩
 ·obtain⟨k,d,h1,h2⟩:=hc
  rcases both k h1 with a1|a1
  ·obtain⟨x1,_,p,hp1,hp2⟩:=a1
   rw[hp2]at h2;cases h2;rcases j.own c ⟨k,d,x1,hp1⟩with h|h
   ·exact .inl (Nat.le_trans I.keep.size h)
   ·obtain⟨k3,d3,_,z2,z3⟩:=live c h
    exact I.own c ⟨k3,d3,z2,z3⟩
  ·rw[a1.2.2.2.1]at h2
   exact I.own c ⟨k,d,a1.2.2.1,h2⟩
 ·rw[<-I.size]
  cases o.dst<;>simp[Act.put]
 ·rw[<-I.defers]
  cases o.dst<;>rfl
 ·by_cases ht:o.dst=some t
  ·rw[D.tmp_put ho R ht]
   have hlt:t<a.tmps.size:=by rw[I.size];exact hd t ht
   have e:(a.put o.dst x).tmps.getD t undef=x:=by rw[ht];simp[Act.put,hlt]
   rw[e];simp only[Option.getD_some];rw[hhi];exact hv.mono s3
  ·rw[tmp_same ho ht]
   have e:(a.put o.dst x).tmps.getD t undef=a.tmps.getD t undef:=by
    cases hdst:o.dst with
    |none=>rfl
    |some d=>
     have:d≠t:=λe=>ht (by rw[hdst,e]);simp[Act.put,this]
   rw[e];exact(I.tmp t).mono (restr_mono s2 _)
end
end Go.CM

noncomputable section
namespace Go.CM
theorem filter_lt {p q:Nat->Bool} {i:Nat}:∀{l:List Nat},i∈l->p i=true->q i=false->(∀j,q j=true->p j=true)->(l.filter q).length<(l.filter p).length
 |[],h,_,_,_=>by cases h
 |x::r,h,hp,hq,hh=>by
  have hle:(r.filter q).length<=(r.filter p).length:=by
   clear h
   induction r with
   |nil=>exact Nat.le_refl _
   |cons y r ih=>
    simp only[List.filter_cons];by_cases h1:q y=true
    ·simp[h1,hh y h1,ih]
    ·by_cases h2:p y=true
     ·simp[h1,h2];omega
     ·simp[h1,h2,ih]
  simp only[List.filter_cons];by_cases hx:i=x
  ·subst hx
   simp only[hp,hq,if_true,List.length_cons];simp;omega
  ·have hm:i∈r:=by simpa[hx]using h
   have:=filter_lt (l:=r) hm hp hq hh;by_cases h1:q x=true
   ·simp[h1,hh x h1,this]
   ·by_cases h2:p x=true
    ·simp[h1,h2];omega
    ·simp[h1,h2,this]
section
variable {P:Program} {E:Env} {m:Nat} {n:Nat×Nat} {ρ:Rho} {h:Heap} {w:World} {tmps:Tm} {a:Act}
theorem wpAny_of {ro:Option Nat} {ops:Array Oper} {Q':Exit->Act->World->Prop} {md:Region.Mode} (I:Array Bool->Act->World->Prop)
  (step:∀listed a w i,listed.size=ops.size->I listed a w->i∈Region.ready md ops listed->wpOpIn (FW ro) 0 P ops Q' i (I (listed.setIfInBounds i true)) a w)
  (fin:∀listed a w,listed.size=ops.size->I listed a w->Region.ready md ops listed=[]->Q' .normal a w):
  ∀(fuel:Nat) (listed:Array Bool) (a:Act) (w:World),listed.size=ops.size->((List.range ops.size).filter λj=> !listed.getD j true).length<=fuel->I listed a w->wpAnyIn (FW ro) 0 P md ops Q' fuel listed a w:=by
 intro fuel
 induction fuel with
 |zero=>
  intro listed a w hs hf hI
  have hr:Region.ready md ops listed=[]:=by
   have:((List.range ops.size).filter λj=> !listed.getD j true)=[]:=List.length_eq_zero_iff.1 (by omega);rw[List.filter_eq_nil_iff]at this;rw[Region.ready,List.filter_eq_nil_iff];intro j hj;have:=this j hj;simp only[Bool.and_eq_true,not_and];intro hh;exact absurd hh this
  exact⟨hr,fin _ _ _ hs hI hr⟩
 |succ fuel ih=>
  intro listed a w hs hf hI;refine⟨λhr=>fin _ _ _ hs hI hr,λi hi=> ?_⟩;refine wpOpIn_mono (λa' w' hI'=>ih _ a' w' (by simp[hs]) ?_ hI') (step _ _ _ _ hs hI hi);obtain⟨h0,o,ho,_⟩:=mem_ready.1 hi;have hlt:i<ops.size:=(Array.getElem?_eq_some_iff.1 ho).1
  have:=filter_lt (p:=λj=> !listed.getD j true) (q:=λj=> !(listed.setIfInBounds i true).getD j true) (i:=i) (l:=List.range ops.size) (by simpa using hlt) (by simp only[h0];rfl) (by
   have:(listed.setIfInBounds i true).getD i true=true:=by simp[hs,hlt]
   simp only[this];rfl) (λj hj=>by
    by_cases hij:i=j
    ·subst hij;simp only[h0];rfl
    ·rwa[getD_set_ne true hij]at hj)
  omega
theorem getD_true {l:Array Bool} {j:Nat} (hj:j<l.size):l.getD j true=l.getD j false:=by simp[hj]
theorem all_listed {ops:Array Oper} {listed:Array Bool} (hs:listed.size=ops.size) (ht:edgesBack 0 ops.toList=true) (hr:Region.ready .any ops listed=[]):∀(n i:Nat),i<n->i<ops.size->listed.getD i false=true:=by
 intro n
 induction n with
 |zero=>intro i hi;omega
 |succ n ih=>
  intro i hi hlt;cases hl:listed.getD i false
  ·have hm:i∈Region.ready .any ops listed:=by
     rw[mem_ready];refine⟨by rw[getD_true (by omega)];exact hl,ops[i],by simp[hlt],λe he hb=> ?_⟩;have h1:=edgesBack_spec ops.toList 0 ht i ops[i] (by simp[hlt]) e he hb;exact ih e.on (by omega) (by omega)
   rw[hr]at hm;cases hm
  ·rfl
theorem wanted_of {arr:Array Oper} {o:Oper} {b:Bool} (ht:∀t∈looksAt arr.toList o,VR ρ ((tmps.get t).getD .undef) (a.tmps.getD t undef)) (e:guardOn arr.toList tmps o=some b):Region.wanted o (yielded arr a.tmps)=b:=by
 unfold guardOn at e;unfold Region.wanted;split at e
 ·rename_i hg
  cases e;rw[hg]
 ·rename_i g hg
  rw[hg];obtain⟨j,want⟩:=g;simp only at e ⊢;unfold yieldOf at e;split at e
  ·rename_i oj hoj
   split at e
   ·rename_i d hd
    split at e
    ·rename_i y' hget
     cases e;have ht:=ht d (by simp[looksAt,hg,hoj,hd]);rw[nth_eq]at hoj;rw[hget]at ht;have hv:=ht.inv_bool;have hoj:arr[j]? =some oj:=by rw[<-Array.getElem?_toList];exact hoj
     have hsome:a.tmps[d]? =some (.bool y'):=by
      rcases Nat.lt_or_ge d a.tmps.size with hlt|hge
      ·simp[hlt]at hv
       simp[hlt,hv]
      ·simp[Nat.not_lt.2 hge]at hv
       cases hv
     simp[yielded,hoj,hd,hsome]
    ·rename_i l hget
     split at e
     ·cases e
      have ht:=ht d (by simp[looksAt,hg,hoj,hd]);rw[nth_eq]at hoj;rw[hget]at ht;have hoj:arr[j]? =some oj:=by rw[<-Array.getElem?_toList];exact hoj
      obtain⟨xs,hx,hxs⟩:=ht.inv_tup
      have hnil:xs= #[]:=by
       have:=hxs.of_nil;exact Array.toList_eq_nil_iff.1 this
      subst hnil
      have hsome:a.tmps[d]? =some (.tuple #[])\/a.tmps[d]? =none:=by
       rcases Nat.lt_or_ge d a.tmps.size with hlt|hge
       ·simp[hlt]at hx
        simp[hlt,hx]
       ·exact .inr (by simp[hge])
      rcases hsome with hsome|hsome<;>simp[yielded,hoj,hd,hsome]
     ·cases e
    ·cases e
   ·cases e
  ·cases e
theorem operand_of {o:Oper} {all:List Oper} (g:GR E ρ h) (ht:∀t∈looksAt all o,VR ρ ((tmps.get t).getD .undef) (a.tmps.getD t undef)) (x:Operand) (hx:x∈o.op.operands):VR ρ (cvOf E.globs tmps x) (a.eval x):=by
 unfold cvOf;split
 ·rename_i t
  exact ht t (List.mem_append_left _ (mem_tmpsOf (by simpa using hx)))
 ·rename_i v
  cases hc:constCV v with
  |none=>exact .undef _
  |some c=>exact constCV_sound hc
 ·rename_i i
  split
  ·rename_i hi
   have hi:i<E.globs:=by simpa[Nat.blt_eq]using hi
   exact VR.ptr (ρ:=ρ) i 0 i 0 (g.glob i hi)
  ·exact .undef _
 ·exact VRs.fn (VRs.nil _) (VRs.nil _)
theorem J.silent {d d':Heap} (hr:HR ρ d w) (h1:∀k,d.get k=none/\d'.get k=none) (hn:d'.next=d.next):J ρ d w ρ d' w:=by
 refine⟨λ_ _=>⟨rfl,rfl⟩,by omega,⟨λk b hb=> ?_,λx y k d e bx cy hx=>(by rw[(h1 x).2]at hx;cases hx),λk hk=>hr.fresh k (by omega),hr.lt⟩,Keep.refl _ _,λb ⟨j,e,h2,_⟩=>absurd (h1 j).2 h2,λb ⟨j,e,c,h2,_⟩=>by rw[(h1 j).2]at h2;cases h2⟩;rw[(h1 k).2]at hb;cases hb
theorem draw_sound (W:EnvW P E) (S:∀m',m'<m->Snd P E m') {arr:Array Oper} (hs:run E m (.draw (aheads arr.toList []) arr.toList arr.toList 0 []) tmps h≠ .stop) (hdst:∀o∈arr.toList,dstOk n.1 o=true) (hok:drawOk arr.toList=true)
  (hr:HR ρ h w) (g:GR E ρ h) (t:TR n ρ h w tmps a) (ro:Option Nat) (k:Nat):wpOpsIn (FW ro) 0 P arr (PostR n ρ h w (run E m (.draw (aheads arr.toList []) arr.toList arr.toList 0 []) tmps h)) (Region.schedule (P.follows .mixedOrders) arr k) a w:=by
 obtain⟨ev,tm,hp,_,h2,h3,h4,h5⟩:=draw_facts (P:=P) W m S arr.toList 0 [] tmps h (λ_=>⟨true,.undef,h,h⟩) hs (by simp) (λj hj=>by omega) (λj hj=>by omega);have D:Drawn P E arr.toList ev tm hp:=⟨λj o ho=>(h5 j o (Nat.zero_le _) ho).1,λj o ho=>(h5 j o (Nat.zero_le _) ho).2,hok⟩;rw[h4];subst h2;subst h3
 have hback:edgesBack 0 arr.toList=true:=by
  unfold drawOk at hok;rw[Bool.and_eq_true]at hok;exact hok.1
 simp only[Region.schedule,W.mixed,Bool.true_or,if_true];refine wpAnyIn_sound arr.size k _ a w ?_
 refine wpAny_of (λlisted a' w'=>(∀i o,arr.toList[i]? =some o->listed.getD i false=true->∀e∈o.after,Region.binds .any e=true->listed.getD e.on false=true)/\
  ∃ρ',Inv n.1 a.defers arr.toList ev (tm 0) (hp 0) ρ w (λj=>listed.getD j false) ρ' a' w') ?_ ?_ _ _ _ _ (by simp) (Nat.le_trans (List.length_filter_le ..) (by simp)) ⟨λi o _ hl=> ?_,ρ,?_⟩
 ·rintro listed a1 w1 i hsz ⟨hcl,ρ1,I⟩ hi
  obtain⟨hun,o,ho,hw⟩:=mem_ready.1 hi;have hlt:i<arr.size:=(Array.getElem?_eq_some_iff.1 ho).1;have hol:arr.toList[i]? =some o:=by simpa using ho
  have hunf:listed.getD i false=false:=by rw[<-getD_true (by omega)];exact hun
  have R:Rdy arr.toList (λj=>listed.getD j false) i:=by
   refine⟨hunf,ahead_in (L:=λj=>listed.getD j false) hcl (i+1) i (Nat.lt_succ_self _) o hol hw,λj hj hm=> ?_⟩
   have hjs:j<arr.toList.length:=by
    rcases Nat.lt_or_ge j listed.size with h|h
    ·rw[Array.length_toList];omega
    ·have hj:listed.getD j false=true:=hj
     simp[Nat.not_lt.2 h]at hj
   have:=ahead_in (L:=λj=>listed.getD j false) hcl (j+1) j (Nat.lt_succ_self _) arr.toList[j] (List.getElem?_eq_getElem hjs) (hcl j _ (List.getElem?_eq_getElem hjs) hj) i hm;rw[hunf]at this;cases this
  have hF:=D.fact i o hol;have htm:∀t∈looksAt arr.toList o,VR (restr ρ1 (hp i).next) (((tm i).get t).getD .undef) (a1.tmps.getD t undef):=λt ht=>D.operand hol R I ht;have hwant:=wanted_of htm hF.guard
  have hcl2:∀i' o',arr.toList[i']? =some o'->(listed.setIfInBounds i true).getD i' false=true->∀e∈o'.after,Region.binds .any e=true->(listed.setIfInBounds i true).getD e.on false=true:=by
   have up:∀j,listed.getD j false=true->(listed.setIfInBounds i true).getD j false=true:=λj hj=>by
    by_cases e:i=j
    ·subst e;rw[hunf]at hj;cases hj
    ·rw[getD_set_ne false e];exact hj
   intro i' o' ho' hl e he hb;by_cases hii:i=i'
   ·subst hii
    rw[hol]at ho';cases ho';exact up _ (hw e he hb)
   ·rw[getD_set_ne false hii]at hl
    exact up _ (hcl i' o' ho' hl e he hb)
  have hfun:(λj=>(listed.setIfInBounds i true).getD j false)=add (λj=>listed.getD j false) i:=by
   funext j
   by_cases e:i=j
   ·subst e
    rw[add_same];simp[hsz,hlt]
   ·rw[add_other _ (Ne.symm e)]
    exact getD_set_ne false e
  have fin:∀(x:Value) (ρ':Rho) (w':World),J (restr ρ1 (hp i).next) (ev i).d w1 ρ' (ev i).d' w'->VR ρ' (ev i).v x->
    (∀i' o',arr.toList[i']? =some o'->(listed.setIfInBounds i true).getD i' false=true->∀e∈o'.after,Region.binds .any e=true->(listed.setIfInBounds i true).getD e.on false=true)/\
    ∃ρ',Inv n.1 a.defers arr.toList ev (tm 0) (hp 0) ρ w (λj=>(listed.setIfInBounds i true).getD j false) ρ' (a1.put o.dst x) w':=by
   intro x ρ' w' j hv;rw[hfun];exact⟨hcl2,D.step hol R (dstOk_lt (hdst o (List.mem_of_getElem? hol))) I j hv⟩
  have hri:=D.hr hol R I;unfold wpOpIn;simp only[ho];rw[hwant];cases hon:(ev i).on with
  |true=>
   simp only[if_true];exact hF.tri hon _ a1 w1 hri (D.gr hol I g) (λx hx=>operand_of (D.gr hol I g) htm x hx) _ _ fin ro
  |false=>
   simp only[Bool.false_eq_true,if_false];obtain⟨v1,v2,v3⟩:=hF.off hon;refine⟨λ_ _=>trivial,fin undef _ w1 (J.silent hri v2 v3) ?_⟩;rw[v1];exact VRs.tup (VRs.nil _)
 ·rintro listed a1 w1 hsz ⟨_,ρ1,I⟩ hrd
  have hall:=all_listed hsz hback hrd
  have hHS:∀k,HS ev (hp 0) arr.toList.length (λj=>listed.getD j false) k=HS ev (hp 0) arr.toList.length (λj=>decide (j<arr.toList.length)) k:=λk=>
   last_congr λj hj _=>by
    rw[hall (j+1) j (Nat.lt_succ_self _) (by rw[<-Array.length_toList];exact hj)];simpa using hj
  have hTS:∀t,TS ev arr.toList (tm 0) (hp 0) (λj=>listed.getD j false) t=TS ev arr.toList (tm 0) (hp 0) (λj=>decide (j<arr.toList.length)) t:=λk=>
   last_congr λj hj _=>by
    rw[hall (j+1) j (Nat.lt_succ_self _) (by rw[<-Array.length_toList];exact hj)];simpa using hj
  have hv:∀k,(HS ev (hp 0) arr.toList.length (λj=>listed.getD j false) k).1=(hp arr.toList.length).get k:=λk=>by
   rw[hHS];exact D.heap_val (Nat.le_refl _) k
  have hle:(hp 0).next<=(hp arr.toList.length).next:=D.next_le (Nat.zero_le _) (Nat.le_refl _)
  have hJ:J ρ (hp 0) w ρ1 (hp arr.toList.length) w1:=by
   refine⟨I.ext,hle,⟨λk b hb=> ?_,λx y k d e bx cy hx hy=> ?_,λk hk=> ?_,I.lt⟩,I.keep,λb hb=> ?_,λb hb=> ?_⟩
   ·obtain⟨c,d,g1,g2⟩:=I.blk k b (by rw[hv];exact hb)
    exact⟨c,d,(restr_some g1).2,g2.later (restr_sub _ _) rfl⟩
   ·exact I.inj x y k d e bx cy (by rw[hv];exact hx) (by rw[hv];exact hy)
   ·rcases Classical.em (ρ1 k=none)with h|h
    ·exact h
    ·exfalso
     obtain⟨j,j1,_,_,j4⟩:=I.dom k (by omega) h;rw[D.hi j1]at j4;have:=D.next_le (i:=j+1) (j:=arr.toList.length) (by omega) (Nat.le_refl _);omega
   ·obtain⟨j,e,k1,k2⟩:=hb
    exact I.own b ⟨j,e,by rw[hv];exact k1,k2⟩
   ·obtain⟨j,e,c,k1,k0,k2⟩:=hb
    exact I.ownW b ⟨j,e,c,by rw[hv];exact k1,k0,k2⟩
  refine⟨trivial,ρ1,hJ,⟨I.size,t.mks.step hJ I.defers,λt=> ?_⟩⟩;have ht:=I.tmp t;rw[hTS,D.tmp_val (Nat.le_refl _)]at ht;exact ht.mono (restr_sub _ _)
 ·exfalso
  by_cases hj:i<arr.size<;>simp[hj]at hl
 ·have hno:∀i,(λj=>(Array.replicate arr.size false).getD j false) i=false:=λi=>by
    by_cases hj:i<arr.size<;>simp[hj]
  have hv:∀k,HS ev (hp 0) arr.toList.length (λj=>(Array.replicate arr.size false).getD j false) k=((hp 0).get k,(hp 0).next):=λk=>last_none λi _=>hno i
  have hlow:∀k p,ρ k=some p->k<(hp 0).next:=λk p hk=>by
   rcases Nat.lt_or_ge k (hp 0).next with h|h
   ·exact h
   ·rw[hr.fresh k h]at hk;cases hk
  have hsub:Sub ρ (restr ρ (hp 0).next):=λk p hk=>⟨by rw[restr_lt (hlow k p hk)];exact hk,rfl⟩;refine⟨λ_ _=>⟨rfl,rfl⟩,λk b hb=> ?_,λx y k d e bx cy hx hy=> ?_,hr.lt,λk hk hne=>absurd (hr.fresh k hk) hne,Keep.refl _ _,λb ⟨k,d,c,hk,hk0,hk2⟩=> ?_,λb ⟨k,d,hk,hk2⟩=> ?_,t.size,rfl,λx=> ?_⟩
  ·rw[hv]at hb ⊢
   obtain⟨c,d,g1,g2⟩:=hr.blk k b hb;exact⟨c,d,(hsub _ _ g1).1,g2.later hsub rfl⟩
  ·rw[hv]at hx hy
   exact hr.inj x y k d e bx cy hx hy
  ·rw[hv]at hk
   exact .inr ⟨k,d,c,hk,hk0,hk2⟩
  ·rw[hv]at hk
   exact .inr ⟨k,d,hk,hk2⟩
  ·have:TS ev arr.toList (tm 0) (hp 0) (λj=>(Array.replicate arr.size false).getD j false) x=((tm 0).get x,(hp 0).next):=last_none λi _=>hno i
   rw[this];exact(t.tmp x).mono hsub
theorem snd (W:EnvW P E):∀(m m':Nat),m'<m->Snd P E m'
 |0,_,h=>by omega
 |m+1,m',hm=>by
  have S:=snd W m;cases m' with
  |zero=>
   exact⟨λ_ _ _ _ hs=>absurd rfl hs,λ_ _ _ _ hs=>absurd rfl hs,λ_ _ _ _ _ _ hs=>absurd rfl hs,λ_ _ _ _ hs=>absurd rfl hs,λ_ _ _ _ _ hs=>absurd rfl hs,λ_ _ _ hs=>absurd rfl hs⟩
  |succ m'=>
   have S1:=S m' (by omega)
   refine⟨λn c tmps h hs hc ro hro ρ a w hr g t=>code_step W S1 hs hc hr g t ro hro,λn c tmps h hs hc ro hro ρ a w hr g t=>loop_step S1 hs hc hr g t ro hro,λn arr rest k tmps h hs hk hd ro ρ a w hr g t=>ops_step W S1 hs hk hd hr g t ro,
    λn arr tmps h hs hd hok ro ρ a w hr g t k=>draw_sound W (λm1 h1=>S m1 (by omega)) hs hd hok hr g t ro k,λf first caps args h hs ρ w xs hr g hx=>call_step W S1 hs hr g hx,λi args h hs ro ρ w xs hr g hx=>round_step W S1 hs ro hr g hx⟩
theorem sound (W:EnvW P E) (m:Nat):Snd P E m:=snd W (m+1) m (Nat.lt_succ_self _)
end
end Go.CM

noncomputable section
namespace Go.CM
def tab {α:Type} (f:Nat->Option α) (n:Nat):Tree α:=Nat.rec .leaf (λk t=>t.set k (f k)) n
theorem tab_get {α:Type} (f:Nat->Option α):∀(n i:Nat),(tab f n).get i=if i<n then f i else none
 |0,i=>by rw[if_neg (Nat.not_lt_zero i)];exact Tree.get_leaf i
 |n+1,i=>by
  show((tab f n).set n (f n)).get i=_;rw[Tree.get_set,tab_get f n i];by_cases h:n=i
  ·subst h;simp
  ·rw[if_neg h]
   by_cases h2:i<n
   ·rw[if_pos h2,if_pos (by omega)]
   ·rw[if_neg h2,if_neg (by omega)]
def cmpB (P:Program) (t:TypeId):Bool:=match P.info? t with
 |some i=>i.comparable&&(!P.stoodInHeld t&& !P.eqGuardType P.depth t)
 |none=>false
def tyRow (P:Program) (cs:List Nat) (t:Nat):Option TyS:=match mem t cs with
 |true=>match cmpB P t with
  |true=>tyOf P t true
  |false=>tyOf P t false
 |false=>tyOf P t false
def fnGood (fn:Func):Bool:= !(fn.name== "runtime.NumGoroutine")&&match fn.body with
 |some c=>dstsOk fn.ntmps c
 |none=>true
def fnRow (P:Program) (fs:List Nat) (f:Nat):Option FnS:=match mem f fs with
 |true=>match P.funcs[f]? with
  |some fn=>some ⟨fn.ntmps,fn.results.toList,fn.body⟩
  |none=>none
 |false=>none
def envOf (P:Program) (n:Nat) (cs:List Nat) (m:Nat) (fs:List Nat) (g:Nat) (kn:List KE) (rows:List (Nat×List CV)):Env:=⟨(tab (tyRow P cs) n).get,(tab (fnRow P fs) m).get,g,kn,rows⟩
def rowsGood (g:Nat) (rows:List (Nat×List CV)):Bool:=rows.all λr=>Nat.blt r.1 g&&r.2.all CV.plain
def fnsGood (P:Program) (fs:List Nat):Bool:=fs.all λf=>match P.funcs[f]? with
 |some fn=>fnGood fn
 |none=>true
theorem mem_of {i:Nat}:∀{l:List Nat},mem i l=true->i∈l
 |[],h=>by cases h
 |j::r,h=>by
  unfold mem at h;cases hb:Nat.beq i j with
  |true=>rw[Nat.eq_of_beq_eq_true hb];simp
  |false=>rw[hb]at h;exact List.mem_cons_of_mem _ (mem_of h)
theorem tyOf_cmp {P:Program} {t:TypeId} {c:Bool} {s:TyS} (h:tyOf P t c=some s):s.cmp=c:=by
 unfold tyOf at h;split at h
 ·split at h
  ·split at h
   ·split at h
    ·rw[<-Option.some.inj h]
    ·cases h
   ·cases h
  ·cases h
 ·cases h
theorem cmpB_ok {P:Program} {t:TypeId} (h:cmpB P t=true):CmpOk P t:=by
 unfold cmpB at h;split at h
 ·rename_i i hi
  simp only[Bool.and_eq_true,Bool.not_eq_true']at h;refine⟨λj hj=> ?_,h.2.1,h.2.2⟩;rw[hi]at hj;cases hj;exact h.1
 ·cases h
theorem envW_of {P:Program} {n m g:Nat} {cs fs:List Nat} {kn:List KE} {rows:List (Nat×List CV)} (hf:fnsGood P fs=true) (hm:P.follows .mixedOrders=true) (hr:rowsGood g rows=true) (hk:∀e∈kn,KnownOk P g rows e):
  EnvW P (envOf P n cs m fs g kn rows):=by
 have row:∀f s,(envOf P n cs m fs g kn rows).fn f=some s->∃fn,P.funcs[f]? =some fn/\s=⟨fn.ntmps,fn.results.toList,fn.body⟩/\fnGood fn=true:=by
  intro f s h;have h:(tab (fnRow P fs) m).get f=some s:=h;rw[tab_get]at h;split at h
  ·unfold fnRow at h
   split at h
   ·rename_i hmem
    split at h
    ·rename_i fn hfn
     refine⟨fn,hfn,(Option.some.inj h).symm,?_⟩;have:=List.all_eq_true.1 hf f (mem_of hmem);rw[hfn]at this;exact this
    ·cases h
   ·cases h
  ·cases h
 refine⟨⟨λt s h=> ?_,λf s h=> ?_⟩,λf s c h hb=> ?_,λf s fn h hfn=> ?_,hm,hk,λr hm=> ?_⟩
 ·have h:(tab (tyRow P cs) n).get t=some s:=h
  rw[tab_get]at h;split at h
  ·unfold tyRow at h
   split at h
   ·split at h
    ·rename_i hc
     have:=tyOf_cmp h;rw[this];exact⟨h,λ_=>cmpB_ok hc⟩
    ·have:=tyOf_cmp h
     rw[this];exact⟨h,λe=>by cases e⟩
   ·have:=tyOf_cmp h
    rw[this];exact⟨h,λe=>by cases e⟩
  ·cases h
 ·obtain⟨fn,h1,rfl,_⟩:=row f s h
  exact⟨fn,h1,rfl,rfl,rfl⟩
 ·obtain⟨fn,h1,rfl,h2⟩:=row f s h
  unfold fnGood at h2;rw[Bool.and_eq_true]at h2;have hb:fn.body=some c:=hb;rw[hb]at h2;exact h2.2
 ·obtain⟨fn',h1,rfl,h2⟩:=row f s h
  rw[h1]at hfn;cases hfn;unfold fnGood at h2;rw[Bool.and_eq_true]at h2;simpa using h2.1
 ·have:=List.all_eq_true.1 hr r hm
  rw[Bool.and_eq_true]at this;exact⟨by have:=this.1;rw[Nat.blt_eq]at this;exact this,this.2⟩
theorem hr0 {w:World} {g:Nat} {rows:List (Nat×List CV)} (hg:g<=w.heap.size) (hrows:∀r∈rows,r.1<g) (h:RowsAt w rows (rho0 g)):HR (rho0 g) (memOf g rows) w:=by
 have get:∀i b,(memOf g rows).get i=some b->∃cs,(i,cs)∈rows/\b= .cells cs true:=by
  intro i b hb;rcases memOf_get g rows .leaf i b hb with h|h
  ·exact h
  ·rw[Tree.get_leaf]at h;cases h
 have loc:∀i k d,rho0 g i=some (k,d)->i<g/\k=i/\d=0:=by
  intro i k d hi;have hi:(if i<g then some (i,0)else none)=some (k,d):=hi
  split at hi
  ·cases hi;exact⟨by assumption,rfl,rfl⟩
  ·cases hi
 refine⟨λi b hb=> ?_,λi j k d e _ _ _ _ _ h1 h2=> ?_,λi hi=> ?_,λi k d hi=> ?_⟩
 ·obtain⟨cs,hm,rfl⟩:=get i b hb
  obtain⟨arr,ty,fz,h1,h2,h3,h4⟩:=h _ hm;have hlt:=hrows _ hm;refine⟨i,0,by show(if i<g then some (i,0)else none)=_;rw[if_pos hlt],arr,ty,fz,h1,⟨by simpa using h2,Nat.zero_le _⟩,by simpa using h3,h4,λe=>by cases e⟩
 ·obtain⟨_,e1,_⟩:=loc _ _ _ h1
  obtain⟨_,e2,_⟩:=loc _ _ _ h2;omega
 ·have:¬i<g:=Nat.not_lt.2 hi
  show(if i<g then some (i,0)else none)=none
  rw[if_neg this]
 ·obtain⟨h1,rfl,_⟩:=loc _ _ _ hi
  omega
theorem kept_of_keep {L:Nat->Prop} {w w':World} (hL:∀b,¬L b) (k:Keep L w w') (may:MemPlace->Prop):w.keptBut w' may:=by
 refine⟨k.os,k.out,λi hi=> ?_⟩;rw[k.same i hi (hL i)];have hs:∃o,w.heap[i]? =some o:=⟨w.heap[i],by simp[hi]⟩;obtain⟨o,ho⟩:=hs;rw[ho];cases o<;>simp
theorem run_closed {P:Program} {E:Env} {m:Nat} {f:FuncId} {vs:List CV} {blks:List (List CV)} {v:CV} {h':Heap} (W:EnvW P E) (hrun:run E m (.call (.fn f [] []) vs) .leaf (heapOf E.globs E.rows blks)= .val v h') (hv:v.plain=true)
  {w:World} {ρ:Rho} {xs:List Value} (hH:HR ρ (heapOf E.globs E.rows blks) w) (hg:∀i,i<E.globs->ρ i=some (i,0)) (hx:VRs ρ vs xs):Calls P f xs.toArray w λe w'=>∃x,e= .returned x/\VR (rho0 E.globs) v x/\Keep (λ_=>False) w w':=by
 have g:GR E ρ (heapOf E.globs E.rows blks):=⟨hg,Nat.le_add_right _ _⟩;have:=(sound W m).call f [] [] vs (heapOf E.globs E.rows blks) (by rw[hrun];simp) ρ w xs hH g (by simpa using hx);rw[hrun]at this;refine this.mono λe w' p=> ?_;obtain⟨x,ρ',rfl,j,hvr⟩:=p;exact⟨x,rfl,hvr.plain hv,j.keep.os,j.keep.out,j.keep.size,λb hb _=>j.keep.same b hb heapOf_ro⟩
def mtT (g:Nat) (c a:CV):Option (List Nat):=match c with
 | .tup cs=>match a with
   | .tup as=>mtAs g cs as []
   |_=>none
 |_=>mtA g [] c a
def allW (h:Heap):List Nat->Bool
 |[]=>true
 |a::r=>match h.get a with
  |some (.cells _ ro)=>match ro with
   |true=>false
   |false=>allW h r
  |_=>false
def kMatch (g:Nat) (e:KE) (v:CV) (h:Heap):Bool:=match mtT g e.res v with
 |some τ=>match mtB h g e.news 0 τ with
  |some τ'=>match Nat.ble (len τ') (len e.news)with
   |true=>allW h τ'
   |false=>false
  |none=>false
 |none=>false
def R.gives (g:Nat) (e:KE):R->Bool
 | .val x h=>kMatch (g+len e.blks) e x h
 |_=>false
theorem gives_of {g:Nat} {e:KE} {r:R} (h:r.gives g e=true):∃v h',r= .val v h'/\kMatch (g+len e.blks) e v h'=true:=by
 unfold R.gives at h;split at h
 ·exact⟨_,_,rfl,h⟩
 ·cases h
theorem allW_mem {h:Heap}:∀{l:List Nat},allW h l=true->∀a∈l,∃cs,h.get a=some (.cells cs false)
 |[],_,a,ha=>by cases ha
 |b::r,e,a,ha=>by
  unfold allW at e;split at e
  ·rename_i cs ro hb
   split at e
   ·cases e
   ·rcases List.mem_cons.1 ha with rfl|ha
    ·exact⟨cs,hb⟩
    ·exact allW_mem e a ha
  ·cases e
theorem mtT_sound {g:Nat} {σ':List Nat} {c a:CV} (h:mtT g c a=some σ'):SOk g σ'/\∀(σF:List Nat) (ρ:Rho) (x:Value),σ'<+:σF->VR ρ a x->VR (rhoC ρ g σF) c x:=by
 have ok:SOk g []:=⟨List.nodup_nil,λa ha=>by cases ha⟩;unfold mtT at h;split at h
 ·split at h
  ·obtain⟨m1,_,m5⟩:=mtAs_sound h ok
   refine⟨m1,λσF ρ x hp hx=> ?_⟩;obtain⟨arr,rfl,h1⟩:=hx.inv_tup;exact VRs.tup (m5 σF ρ _ hp h1)
  ·cases h
 ·obtain⟨k1,_,k4⟩:=mtA_sound h ok
  exact⟨k1,k4⟩
theorem small_add {ρ ρ1:Rho} {w w':World} {g:Nat} {rows:List (Nat×List CV)} {e:KE} {v:CV} {h':Heap} (hr:HR ρ (heapOf g rows e.blks) w) (j:J ρ (heapOf g rows e.blks) w ρ1 h' w') (hm:kMatch (g+len e.blks) e v h'=true):
  ∃ρ2,J ρ (heapOf g rows e.blks) w ρ2 (kAdd (heapOf g rows e.blks) e.news) w'/\∀x,VR ρ1 v x->VR ρ2 e.res x:=by
 have hnx:(heapOf g rows e.blks).next=g+len e.blks:=rfl;unfold kMatch at hm;split at hm
 ·rename_i τ h1
  split at hm
  ·rename_i τ' h2
   split at hm
   ·rename_i h3
    obtain⟨k1,k4⟩:=mtT_sound h1;obtain⟨⟨m1,m1'⟩,m2,m3⟩:=mtB_sound h2 k1;have hl:=Nat.le_of_ble_eq_true h3;rw[len_eq,len_eq]at hl;have hW:=allW_mem hm;have ge:∀n,¬g+len e.blks+n<g+len e.blks:=λn=>by omega
    have sub:∀n,g+len e.blks+n-(g+len e.blks)=n:=λn=>by omega
    have at_:∀n a,τ'[n]? =some a->(rhoC ρ1 (g+len e.blks) τ') (g+len e.blks+n)=ρ1 a/\(rhoC ρ1 (g+len e.blks) τ').room (g+len e.blks+n)=ρ1.room a:=λn a ha=>rhoC_ge (ge n) (by rw[sub n];exact ha);refine⟨rhoC ρ1 (g+len e.blks) τ',J.add hr (λi hi=> ?_) (λi hi=> ?_) ⟨j.keep.os,j.keep.out,j.keep.size,λb hb _=>j.keep.same b hb heapOf_ro⟩ (λn b hb=> ?_) (λn k d hn=> ?_) (λn m b c k d e' hb hc q1 q2=> ?_),λx hx=>k4 _ ρ1 x m2 hx⟩
    ·rw[hnx]at hi
     obtain⟨c1,c2⟩:=rhoC_lt (ρ:=ρ1) (σ:=τ') hi;obtain⟨o1,o2⟩:=j.ext i (by rw[hnx];exact hi);exact⟨c1.trans o1,c2.trans o2⟩
    ·rw[hnx]at hi
     show(if i<g+len e.blks then ρ1 i else match τ'[i-(g+len e.blks)]? with|some a=>ρ1 a|none=>none)=none
     rw[if_neg (by omega),List.getElem?_eq_none (by omega)]
    ·obtain⟨a,cs,ro,q1,q2,q3,q4,q5⟩:=m3 n b hb
     rw[Nat.zero_add]at q1;obtain⟨cs2,q6⟩:=hW a (List.mem_of_getElem? q1);rw[q2]at q6;cases q6;obtain⟨k,d,r1,arr,ty,fz,r2,r3,r4,r5,r6⟩:=j.hr.blk a _ q2;obtain⟨t1,t2⟩:=at_ n a q1
     have hs:w.heap.size<=k:=by
      rcases j.ownW k ⟨a,d,_,q2,rfl,r1⟩with h|h
      ·exact h
      ·exact absurd h heapOf_ro
     rw[hnx];refine⟨k,d,t1.trans r1,hs,arr,ty,fz,r2,?_,?_,q3,r6⟩
     ·rw[t2,q4];exact r3
     ·rw[q4];exact q5 _ ρ1 _ (List.prefix_refl _) r4
    ·rw[hnx]at hn
     rcases rhoC_some hn with⟨i1,_⟩|⟨_,a,_,i3⟩
     ·omega
     ·exact j.hr.lt _ _ _ i3
    ·obtain⟨a,cs,ro,p1,p2,_⟩:=m3 n b hb
     obtain⟨a',cs',ro',p1',p2',_⟩:=m3 m c hc;rw[Nat.zero_add]at p1 p1';obtain⟨u,hu⟩:=hW a (List.mem_of_getElem? p1);rw[p2]at hu;cases hu;rw[hnx,(at_ n a p1).1]at q1;rw[hnx,(at_ m a' p1').1]at q2;have:=j.hr.inj a a' k d e' _ _ p2 p2' (.inl rfl) q1 q2;subst this;obtain⟨l1,l2⟩:=List.getElem?_eq_some_iff.1 p1;obtain⟨l3,l4⟩:=List.getElem?_eq_some_iff.1 p1';exact(List.getElem?_inj l1 m1).1 (p1.trans p1'.symm)
   ·cases hm
  ·cases hm
 ·cases hm
theorem known_of {P:Program} {E:Env} {m:Nat} {e:KE} (W:EnvW P E) (hrun:(run E m (.call (.fn e.f [] []) e.args) .leaf (heapOf E.globs E.rows e.blks)).gives E.globs e=true):KnownOk P E.globs E.rows e:=by
 obtain⟨v,h',hrr,hm⟩:=gives_of hrun;refine⟨call_fn W (id:=e.f) (first:=[]) (caps:=[]) (args:=e.args) (tmps:= .leaf) (h:=heapOf E.globs E.rows e.blks) (m:=m) (by rw[hrr];simp),λw ρ xs hH hg hx=> ?_⟩;have g:GR E ρ (heapOf E.globs E.rows e.blks):=⟨hg,Nat.le_add_right _ _⟩;have:=(sound W m).call e.f [] [] e.args (heapOf E.globs E.rows e.blks) (by rw[hrr];simp) ρ w xs hH g (by simpa using hx);rw[hrr]at this;refine this.mono λe' w' p=> ?_;obtain⟨x,ρ',rfl,j,hvr⟩:=p;obtain⟨ρ2,j2,h2⟩:=small_add hH j hm;exact⟨x,ρ2,rfl,j2,h2 x hvr⟩
theorem rowsAt_of_trod {P:Program} {w:World} {H:Type} {enc:TypeId×Value->H} {base fuel:Nat} {spare:Nat->Bool} {held:Bool} {name:String} {g:Nat} {t e:TypeId} {k:IntKind} {ns:List Int} {cs:Array Value} {ps:List MemPlace} {ρ:Rho}
  (hg:P.globalNamed name=some g) (hv:w.var? P name=some cs) (ht:P.underlying t=some (.array ns.length e)) (he:P.underlying e=some (.int k)) (h1:P.cellsOf e=1) (h2:P.cellsOf t=ns.length)
  (hd:DataW.trod enc P w base spare held fuel t cs.toList=some (.agg (ns.map λn=> .lit (.int k n)),ps)):RowsAt w [(g,ns.map (CV.int k))] ρ:=by
 intro r hr;rw[List.mem_singleton]at hr;subst hr;simp only[World.var?,hg,Option.bind_some]at hv
 have hcs:∃ty fz,w.heap[g]? =some (.cells cs ty fz):=by
  split at hv
  ·rename_i cs' ty fz hw
   cases hv;exact⟨ty,fz,hw⟩
  ·cases hv
 obtain⟨ty,fz,hw⟩:=hcs;obtain⟨xs,m1,rfl,hx1,hlen,hn,hel⟩:=DataW.trod_array ht hd;have hlen:cs.size=ns.length:=by simpa[h2]using hlen
 simp only[Prod.mk.injEq,DataW.agg.injEq]at hx1;refine⟨cs,ty,fz,hw,by simp[hlen],?_,by simp[CV.one]⟩;refine⟨by simp[hlen],λi hi=> ?_⟩;have hi:i<ns.length:=by simpa using hi
 have hi2:i<xs.length:=by omega
 have hcell:=hel i hi;rw[h1,List.getElem?_eq_getElem hi2]at hcell;obtain⟨n,e1,e2,_⟩:=DataW.trod_int he (show DataW.trod enc P w base spare held m1 e _=some (xs[i].1,xs[i].2)from hcell);have hxi:(xs.map (·.1))[i]? =some (.lit (.int k ns[i])):=by rw[<-hx1.1];simp[hi]
 rw[List.getElem?_map,List.getElem?_eq_getElem hi2]at hxi;simp only[Option.map_some,Option.some.injEq]at hxi;rw[hxi]at e2;simp only[Prod.mk.injEq,DataW.lit.injEq,Lit.int.injEq,true_and]at e2;obtain⟨e2,_⟩:=e2
 have hc:cs.toList[i]? =some (.int k n):=by
  have:((cs.toList.drop (i*1)).take 1)[0]? =some (.int k n):=by rw[e1];rfl
  simpa using this
 have hL:(ns.map (CV.int k)).getD i .undef= .int k ns[i]:=by simp[List.getD_eq_getElem?_getD,hi]
 have hR:((cs.toList.take (ns.map (CV.int k)).length).getD i undef)= .int k n:=by
  rw[List.getD_eq_getElem?_getD,List.getElem?_take,if_pos (by simpa using hi),hc];rfl
 rw[hL,hR,e2];exact .int _ _
end Go.CM
