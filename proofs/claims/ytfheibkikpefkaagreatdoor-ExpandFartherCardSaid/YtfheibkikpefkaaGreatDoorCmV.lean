/- The plain machine is sound. No condition. -/
import Derived.Test.YtfheibkikpefkaaGreatDoorCmU
import Derived.ChangeShapes
import Derived.OpenShut
import Derived.RowKit
import Derived.FnData
import Derived.MakeChecks
import GoSem.ClaimJoined
set_option linter.unusedVariables false
set_option linter.unusedSimpArgs false
noncomputable section
namespace Go.CM
theorem filter_lt {p q:Nat->Bool} {i:Nat}:∀{l:List Nat},i∈l->p i=true->q i=false->(∀j,q j=true->p j=true)->(l.filter q).length<(l.filter p).length
 |[],h,_,_,_=>by cases h
 |x::r,h,hp,hq,hh=>by
  have hle:(r.filter q).length<=(r.filter p).length:=by
   clear h
   induction r with
   |nil=>exact Nat.le_refl _
   |cons y r ih=>
    simp only[List.filter_cons];by_cases h1:q y=true
    ·simp[h1,hh y h1,ih]
    ·by_cases h2:p y=true
     ·simp[h1,h2];omega
     ·simp[h1,h2,ih]
  simp only[List.filter_cons];by_cases hx:i=x
  ·subst hx
   simp only[hp,hq,if_true,List.length_cons];simp;omega
  ·have hm:i∈r:=by simpa[hx]using h
   have:=filter_lt (l:=r) hm hp hq hh;by_cases h1:q x=true
   ·simp[h1,hh x h1,this]
   ·by_cases h2:p x=true
    ·simp[h1,h2];omega
    ·simp[h1,h2,this]
section
variable {P:Program} {E:Env} {m:Nat} {n:Nat×Nat} {ρ:Rho} {h:Heap} {w:World} {tmps:Tm} {a:Act}
theorem wpAny_of {ro:Option Nat} {ops:Array Oper} {Q':Exit->Act->World->Prop} {md:Region.Mode} (I:Array Bool->Act->World->Prop)
  (step:∀listed a w i,listed.size=ops.size->I listed a w->i∈Region.ready md ops listed->wpOpIn (FW ro) 0 P ops Q' i (I (listed.setIfInBounds i true)) a w)
  (fin:∀listed a w,listed.size=ops.size->I listed a w->Region.ready md ops listed=[]->Q' .normal a w):
  ∀(fuel:Nat) (listed:Array Bool) (a:Act) (w:World),listed.size=ops.size->((List.range ops.size).filter λj=> !listed.getD j true).length<=fuel->I listed a w->wpAnyIn (FW ro) 0 P md ops Q' fuel listed a w:=by
 intro fuel
 induction fuel with
 |zero=>
  intro listed a w hs hf hI
  have hr:Region.ready md ops listed=[]:=by
   have:((List.range ops.size).filter λj=> !listed.getD j true)=[]:=List.length_eq_zero_iff.1 (by omega);rw[List.filter_eq_nil_iff]at this;rw[Region.ready,List.filter_eq_nil_iff];intro j hj;have:=this j hj;simp only[Bool.and_eq_true,not_and];intro hh;exact absurd hh this
  exact⟨hr,fin _ _ _ hs hI hr⟩
 |succ fuel ih=>
  intro listed a w hs hf hI;refine⟨λhr=>fin _ _ _ hs hI hr,λi hi=> ?_⟩;refine wpOpIn_mono (λa' w' hI'=>ih _ a' w' (by simp[hs]) ?_ hI') (step _ _ _ _ hs hI hi);obtain⟨h0,o,ho,_⟩:=mem_ready.1 hi;have hlt:i<ops.size:=(Array.getElem?_eq_some_iff.1 ho).1
  have:=filter_lt (p:=λj=> !listed.getD j true) (q:=λj=> !(listed.setIfInBounds i true).getD j true) (i:=i) (l:=List.range ops.size) (by simpa using hlt) (by simp only[h0];rfl) (by
   have:(listed.setIfInBounds i true).getD i true=true:=by simp[hs,hlt]
   simp only[this];rfl) (λj hj=>by
    by_cases hij:i=j
    ·subst hij;simp only[h0];rfl
    ·rwa[getD_set_ne true hij]at hj)
  omega
theorem getD_true {l:Array Bool} {j:Nat} (hj:j<l.size):l.getD j true=l.getD j false:=by simp[hj]
theorem all_listed {ops:Array Oper} {listed:Array Bool} (hs:listed.size=ops.size) (ht:edgesBack 0 ops.toList=true) (hr:Region.ready .any ops listed=[]):∀(n i:Nat),i<n->i<ops.size->listed.getD i false=true:=by
 intro n
 induction n with
 |zero=>intro i hi;omega
 |succ n ih=>
  intro i hi hlt;cases hl:listed.getD i false
  ·have hm:i∈Region.ready .any ops listed:=by
     rw[mem_ready];refine⟨by rw[getD_true (by omega)];exact hl,ops[i],by simp[hlt],λe he hb=> ?_⟩;have h1:=edgesBack_spec ops.toList 0 ht i ops[i] (by simp[hlt]) e he hb;exact ih e.on (by omega) (by omega)
   rw[hr]at hm;cases hm
  ·rfl
theorem wanted_of {arr:Array Oper} {o:Oper} {b:Bool} (ht:∀t∈looksAt arr.toList o,VR ρ ((tmps.get t).getD .undef) (a.tmps.getD t undef)) (e:guardOn arr.toList tmps o=some b):Region.wanted o (yielded arr a.tmps)=b:=by
 unfold guardOn at e;unfold Region.wanted;split at e
 ·rename_i hg
  cases e;rw[hg]
 ·rename_i g hg
  rw[hg];obtain⟨j,want⟩:=g;simp only at e ⊢;unfold yieldOf at e;split at e
  ·rename_i oj hoj
   split at e
   ·rename_i d hd
    split at e
    ·rename_i y' hget
     cases e;have ht:=ht d (by simp[looksAt,hg,hoj,hd]);rw[nth_eq]at hoj;rw[hget]at ht;have hv:=ht.inv_bool;have hoj:arr[j]? =some oj:=by rw[<-Array.getElem?_toList];exact hoj
     have hsome:a.tmps[d]? =some (.bool y'):=by
      rcases Nat.lt_or_ge d a.tmps.size with hlt|hge
      ·simp[hlt]at hv
       simp[hlt,hv]
      ·simp[Nat.not_lt.2 hge]at hv
       cases hv
     simp[yielded,hoj,hd,hsome]
    ·rename_i l hget
     split at e
     ·cases e
      have ht:=ht d (by simp[looksAt,hg,hoj,hd]);rw[nth_eq]at hoj;rw[hget]at ht;have hoj:arr[j]? =some oj:=by rw[<-Array.getElem?_toList];exact hoj
      obtain⟨xs,hx,hxs⟩:=ht.inv_tup
      have hnil:xs= #[]:=by
       have:=hxs.of_nil;exact Array.toList_eq_nil_iff.1 this
      subst hnil
      have hsome:a.tmps[d]? =some (.tuple #[])\/a.tmps[d]? =none:=by
       rcases Nat.lt_or_ge d a.tmps.size with hlt|hge
       ·simp[hlt]at hx
        simp[hlt,hx]
       ·exact .inr (by simp[hge])
      rcases hsome with hsome|hsome<;>simp[yielded,hoj,hd,hsome]
     ·cases e
    ·cases e
   ·cases e
  ·cases e
theorem operand_of {o:Oper} {all:List Oper} (g:GR E ρ h) (ht:∀t∈looksAt all o,VR ρ ((tmps.get t).getD .undef) (a.tmps.getD t undef)) (x:Operand) (hx:x∈o.op.operands):VR ρ (cvOf E.globs tmps x) (a.eval x):=by
 unfold cvOf;split
 ·rename_i t
  exact ht t (List.mem_append_left _ (mem_tmpsOf (by simpa using hx)))
 ·rename_i v
  cases hc:constCV v with
  |none=>exact .undef _
  |some c=>exact constCV_sound hc
 ·rename_i i
  split
  ·rename_i hi
   have hi:i<E.globs:=by simpa[Nat.blt_eq]using hi
   exact VR.ptr (ρ:=ρ) i 0 i 0 (g.glob i hi)
  ·exact .undef _
 ·exact VRs.fn (VRs.nil _) (VRs.nil _)
theorem J.silent {d d':Heap} (hr:HR ρ d w) (h1:∀k,d.get k=none/\d'.get k=none) (hn:d'.next=d.next):J ρ d w ρ d' w:=by
 refine⟨λ_ _=>⟨rfl,rfl⟩,by omega,⟨λk b hb=> ?_,λx y k d e bx cy hx=>(by rw[(h1 x).2]at hx;cases hx),λk hk=>hr.fresh k (by omega),hr.lt⟩,Keep.refl _ _,λb ⟨j,e,h2,_⟩=>absurd (h1 j).2 h2,λb ⟨j,e,c,h2,_⟩=>by rw[(h1 j).2]at h2;cases h2⟩;rw[(h1 k).2]at hb;cases hb
theorem draw_sound (W:EnvW P E) (S:∀m',m'<m->Snd P E m') {arr:Array Oper} (hs:run E m (.draw (aheads arr.toList []) arr.toList arr.toList 0 []) tmps h≠ .stop) (hdst:∀o∈arr.toList,dstOk n.1 o=true) (hok:drawOk arr.toList=true)
  (hr:HR ρ h w) (g:GR E ρ h) (t:TR n ρ h w tmps a) (ro:Option Nat) (k:Nat):wpOpsIn (FW ro) 0 P arr (PostR n ρ h w (run E m (.draw (aheads arr.toList []) arr.toList arr.toList 0 []) tmps h)) (Region.schedule (P.follows .mixedOrders) arr k) a w:=by
 obtain⟨ev,tm,hp,_,h2,h3,h4,h5⟩:=draw_facts (P:=P) W m S arr.toList 0 [] tmps h (λ_=>⟨true,.undef,h,h⟩) hs (by simp) (λj hj=>by omega) (λj hj=>by omega);have D:Drawn P E arr.toList ev tm hp:=⟨λj o ho=>(h5 j o (Nat.zero_le _) ho).1,λj o ho=>(h5 j o (Nat.zero_le _) ho).2,hok⟩;rw[h4];subst h2;subst h3
 have hback:edgesBack 0 arr.toList=true:=by
  unfold drawOk at hok;rw[Bool.and_eq_true]at hok;exact hok.1
 simp only[Region.schedule,W.mixed,Bool.true_or,if_true];refine wpAnyIn_sound arr.size k _ a w ?_
 refine wpAny_of (λlisted a' w'=>(∀i o,arr.toList[i]? =some o->listed.getD i false=true->∀e∈o.after,Region.binds .any e=true->listed.getD e.on false=true)/\
  ∃ρ',Inv n.1 a.defers arr.toList ev (tm 0) (hp 0) ρ w (λj=>listed.getD j false) ρ' a' w') ?_ ?_ _ _ _ _ (by simp) (Nat.le_trans (List.length_filter_le ..) (by simp)) ⟨λi o _ hl=> ?_,ρ,?_⟩
 ·rintro listed a1 w1 i hsz ⟨hcl,ρ1,I⟩ hi
  obtain⟨hun,o,ho,hw⟩:=mem_ready.1 hi;have hlt:i<arr.size:=(Array.getElem?_eq_some_iff.1 ho).1;have hol:arr.toList[i]? =some o:=by simpa using ho
  have hunf:listed.getD i false=false:=by rw[<-getD_true (by omega)];exact hun
  have R:Rdy arr.toList (λj=>listed.getD j false) i:=by
   refine⟨hunf,ahead_in (L:=λj=>listed.getD j false) hcl (i+1) i (Nat.lt_succ_self _) o hol hw,λj hj hm=> ?_⟩
   have hjs:j<arr.toList.length:=by
    rcases Nat.lt_or_ge j listed.size with h|h
    ·rw[Array.length_toList];omega
    ·have hj:listed.getD j false=true:=hj
     simp[Nat.not_lt.2 h]at hj
   have:=ahead_in (L:=λj=>listed.getD j false) hcl (j+1) j (Nat.lt_succ_self _) arr.toList[j] (List.getElem?_eq_getElem hjs) (hcl j _ (List.getElem?_eq_getElem hjs) hj) i hm;rw[hunf]at this;cases this
  have hF:=D.fact i o hol;have htm:∀t∈looksAt arr.toList o,VR (restr ρ1 (hp i).next) (((tm i).get t).getD .undef) (a1.tmps.getD t undef):=λt ht=>D.operand hol R I ht;have hwant:=wanted_of htm hF.guard
  have hcl2:∀i' o',arr.toList[i']? =some o'->(listed.setIfInBounds i true).getD i' false=true->∀e∈o'.after,Region.binds .any e=true->(listed.setIfInBounds i true).getD e.on false=true:=by
   have up:∀j,listed.getD j false=true->(listed.setIfInBounds i true).getD j false=true:=λj hj=>by
    by_cases e:i=j
    ·subst e;rw[hunf]at hj;cases hj
    ·rw[getD_set_ne false e];exact hj
   intro i' o' ho' hl e he hb;by_cases hii:i=i'
   ·subst hii
    rw[hol]at ho';cases ho';exact up _ (hw e he hb)
   ·rw[getD_set_ne false hii]at hl
    exact up _ (hcl i' o' ho' hl e he hb)
  have hfun:(λj=>(listed.setIfInBounds i true).getD j false)=add (λj=>listed.getD j false) i:=by
   funext j
   by_cases e:i=j
   ·subst e
    rw[add_same];simp[hsz,hlt]
   ·rw[add_other _ (Ne.symm e)]
    exact getD_set_ne false e
  have fin:∀(x:Value) (ρ':Rho) (w':World),J (restr ρ1 (hp i).next) (ev i).d w1 ρ' (ev i).d' w'->VR ρ' (ev i).v x->
    (∀i' o',arr.toList[i']? =some o'->(listed.setIfInBounds i true).getD i' false=true->∀e∈o'.after,Region.binds .any e=true->(listed.setIfInBounds i true).getD e.on false=true)/\
    ∃ρ',Inv n.1 a.defers arr.toList ev (tm 0) (hp 0) ρ w (λj=>(listed.setIfInBounds i true).getD j false) ρ' (a1.put o.dst x) w':=by
   intro x ρ' w' j hv;rw[hfun];exact⟨hcl2,D.step hol R (dstOk_lt (hdst o (List.mem_of_getElem? hol))) I j hv⟩
  have hri:=D.hr hol R I;unfold wpOpIn;simp only[ho];rw[hwant];cases hon:(ev i).on with
  |true=>
   simp only[if_true];exact hF.tri hon _ a1 w1 hri (D.gr hol I g) (λx hx=>operand_of (D.gr hol I g) htm x hx) _ _ fin ro
  |false=>
   simp only[Bool.false_eq_true,if_false];obtain⟨v1,v2,v3⟩:=hF.off hon;refine⟨λ_ _=>trivial,fin undef _ w1 (J.silent hri v2 v3) ?_⟩;rw[v1];exact VRs.tup (VRs.nil _)
 ·rintro listed a1 w1 hsz ⟨_,ρ1,I⟩ hrd
  have hall:=all_listed hsz hback hrd
  have hHS:∀k,HS ev (hp 0) arr.toList.length (λj=>listed.getD j false) k=HS ev (hp 0) arr.toList.length (λj=>decide (j<arr.toList.length)) k:=λk=>
   last_congr λj hj _=>by
    rw[hall (j+1) j (Nat.lt_succ_self _) (by rw[<-Array.length_toList];exact hj)];simpa using hj
  have hTS:∀t,TS ev arr.toList (tm 0) (hp 0) (λj=>listed.getD j false) t=TS ev arr.toList (tm 0) (hp 0) (λj=>decide (j<arr.toList.length)) t:=λk=>
   last_congr λj hj _=>by
    rw[hall (j+1) j (Nat.lt_succ_self _) (by rw[<-Array.length_toList];exact hj)];simpa using hj
  have hv:∀k,(HS ev (hp 0) arr.toList.length (λj=>listed.getD j false) k).1=(hp arr.toList.length).get k:=λk=>by
   rw[hHS];exact D.heap_val (Nat.le_refl _) k
  have hle:(hp 0).next<=(hp arr.toList.length).next:=D.next_le (Nat.zero_le _) (Nat.le_refl _)
  have hJ:J ρ (hp 0) w ρ1 (hp arr.toList.length) w1:=by
   refine⟨I.ext,hle,⟨λk b hb=> ?_,λx y k d e bx cy hx hy=> ?_,λk hk=> ?_,I.lt⟩,I.keep,λb hb=> ?_,λb hb=> ?_⟩
   ·obtain⟨c,d,g1,g2⟩:=I.blk k b (by rw[hv];exact hb)
    exact⟨c,d,(restr_some g1).2,g2.later (restr_sub _ _) rfl⟩
   ·exact I.inj x y k d e bx cy (by rw[hv];exact hx) (by rw[hv];exact hy)
   ·rcases Classical.em (ρ1 k=none)with h|h
    ·exact h
    ·exfalso
     obtain⟨j,j1,_,_,j4⟩:=I.dom k (by omega) h;rw[D.hi j1]at j4;have:=D.next_le (i:=j+1) (j:=arr.toList.length) (by omega) (Nat.le_refl _);omega
   ·obtain⟨j,e,k1,k2⟩:=hb
    exact I.own b ⟨j,e,by rw[hv];exact k1,k2⟩
   ·obtain⟨j,e,c,k1,k0,k2⟩:=hb
    exact I.ownW b ⟨j,e,c,by rw[hv];exact k1,k0,k2⟩
  refine⟨trivial,ρ1,hJ,⟨I.size,t.mks.step hJ I.defers,λt=> ?_⟩⟩;have ht:=I.tmp t;rw[hTS,D.tmp_val (Nat.le_refl _)]at ht;exact ht.mono (restr_sub _ _)
 ·exfalso
  by_cases hj:i<arr.size<;>simp[hj]at hl
 ·have hno:∀i,(λj=>(Array.replicate arr.size false).getD j false) i=false:=λi=>by
    by_cases hj:i<arr.size<;>simp[hj]
  have hv:∀k,HS ev (hp 0) arr.toList.length (λj=>(Array.replicate arr.size false).getD j false) k=((hp 0).get k,(hp 0).next):=λk=>last_none λi _=>hno i
  have hlow:∀k p,ρ k=some p->k<(hp 0).next:=λk p hk=>by
   rcases Nat.lt_or_ge k (hp 0).next with h|h
   ·exact h
   ·rw[hr.fresh k h]at hk;cases hk
  have hsub:Sub ρ (restr ρ (hp 0).next):=λk p hk=>⟨by rw[restr_lt (hlow k p hk)];exact hk,rfl⟩;refine⟨λ_ _=>⟨rfl,rfl⟩,λk b hb=> ?_,λx y k d e bx cy hx hy=> ?_,hr.lt,λk hk hne=>absurd (hr.fresh k hk) hne,Keep.refl _ _,λb ⟨k,d,c,hk,hk0,hk2⟩=> ?_,λb ⟨k,d,hk,hk2⟩=> ?_,t.size,rfl,λx=> ?_⟩
  ·rw[hv]at hb ⊢
   obtain⟨c,d,g1,g2⟩:=hr.blk k b hb;exact⟨c,d,(hsub _ _ g1).1,g2.later hsub rfl⟩
  ·rw[hv]at hx hy
   exact hr.inj x y k d e bx cy hx hy
  ·rw[hv]at hk
   exact .inr ⟨k,d,c,hk,hk0,hk2⟩
  ·rw[hv]at hk
   exact .inr ⟨k,d,hk,hk2⟩
  ·have:TS ev arr.toList (tm 0) (hp 0) (λj=>(Array.replicate arr.size false).getD j false) x=((tm 0).get x,(hp 0).next):=last_none λi _=>hno i
   rw[this];exact(t.tmp x).mono hsub
theorem snd (W:EnvW P E):∀(m m':Nat),m'<m->Snd P E m'
 |0,_,h=>by omega
 |m+1,m',hm=>by
  have S:=snd W m;cases m' with
  |zero=>
   exact⟨λ_ _ _ _ hs=>absurd rfl hs,λ_ _ _ _ hs=>absurd rfl hs,λ_ _ _ _ _ _ hs=>absurd rfl hs,λ_ _ _ _ hs=>absurd rfl hs,λ_ _ _ _ _ hs=>absurd rfl hs,λ_ _ _ hs=>absurd rfl hs⟩
  |succ m'=>
   have S1:=S m' (by omega)
   refine⟨λn c tmps h hs hc ro hro ρ a w hr g t=>code_step W S1 hs hc hr g t ro hro,λn c tmps h hs hc ro hro ρ a w hr g t=>loop_step S1 hs hc hr g t ro hro,λn arr rest k tmps h hs hk hd ro ρ a w hr g t=>ops_step W S1 hs hk hd hr g t ro,
    λn arr tmps h hs hd hok ro ρ a w hr g t k=>draw_sound W (λm1 h1=>S m1 (by omega)) hs hd hok hr g t ro k,λf first caps args h hs ρ w xs hr g hx=>call_step W S1 hs hr g hx,λi args h hs ro ρ w xs hr g hx=>round_step W S1 hs ro hr g hx⟩
theorem sound (W:EnvW P E) (m:Nat):Snd P E m:=snd W (m+1) m (Nat.lt_succ_self _)
end
end Go.CM

noncomputable section
namespace Go.CM
def tab {α:Type} (f:Nat->Option α) (n:Nat):Tree α:=Nat.rec .leaf (λk t=>t.set k (f k)) n
theorem tab_get {α:Type} (f:Nat->Option α):∀(n i:Nat),(tab f n).get i=if i<n then f i else none
 |0,i=>by rw[if_neg (Nat.not_lt_zero i)];exact Tree.get_leaf i
 |n+1,i=>by
  show((tab f n).set n (f n)).get i=_;rw[Tree.get_set,tab_get f n i];by_cases h:n=i
  ·subst h;simp
  ·rw[if_neg h]
   by_cases h2:i<n
   ·rw[if_pos h2,if_pos (by omega)]
   ·rw[if_neg h2,if_neg (by omega)]
def cmpB (P:Program) (t:TypeId):Bool:=match P.info? t with
 |some i=>i.comparable&&(!P.stoodInHeld t&& !P.eqGuardType P.depth t)
 |none=>false
def tyRow (P:Program) (cs:List Nat) (t:Nat):Option TyS:=match mem t cs with
 |true=>match cmpB P t with
  |true=>tyOf P t true
  |false=>tyOf P t false
 |false=>tyOf P t false
def fnGood (fn:Func):Bool:= !(fn.name== "runtime.NumGoroutine")&&match fn.body with
 |some c=>dstsOk fn.ntmps c
 |none=>true
def fnRow (P:Program) (fs:List Nat) (f:Nat):Option FnS:=match mem f fs with
 |true=>match P.funcs[f]? with
  |some fn=>some ⟨fn.ntmps,fn.results.toList,fn.body⟩
  |none=>none
 |false=>none
def envOf (P:Program) (n:Nat) (cs:List Nat) (m:Nat) (fs:List Nat) (g:Nat) (kn:List KE) (rows:List (Nat×List CV)):Env:=⟨(tab (tyRow P cs) n).get,(tab (fnRow P fs) m).get,g,kn,rows⟩
def rowsGood (g:Nat) (rows:List (Nat×List CV)):Bool:=rows.all λr=>Nat.blt r.1 g&&r.2.all CV.plain
def fnsGood (P:Program) (fs:List Nat):Bool:=fs.all λf=>match P.funcs[f]? with
 |some fn=>fnGood fn
 |none=>true
theorem mem_of {i:Nat}:∀{l:List Nat},mem i l=true->i∈l
 |[],h=>by cases h
 |j::r,h=>by
  unfold mem at h;cases hb:Nat.beq i j with
  |true=>rw[Nat.eq_of_beq_eq_true hb];simp
  |false=>rw[hb]at h;exact List.mem_cons_of_mem _ (mem_of h)
theorem tyOf_cmp {P:Program} {t:TypeId} {c:Bool} {s:TyS} (h:tyOf P t c=some s):s.cmp=c:=by
 unfold tyOf at h;split at h
 ·split at h
  ·split at h
   ·split at h
    ·rw[<-Option.some.inj h]
    ·cases h
   ·cases h
  ·cases h
 ·cases h
theorem cmpB_ok {P:Program} {t:TypeId} (h:cmpB P t=true):CmpOk P t:=by
 unfold cmpB at h;split at h
 ·rename_i i hi
  simp only[Bool.and_eq_true,Bool.not_eq_true']at h;refine⟨λj hj=> ?_,h.2.1,h.2.2⟩;rw[hi]at hj;cases hj;exact h.1
 ·cases h
theorem envW_of {P:Program} {n m g:Nat} {cs fs:List Nat} {kn:List KE} {rows:List (Nat×List CV)} (hf:fnsGood P fs=true) (hm:P.follows .mixedOrders=true) (hr:rowsGood g rows=true) (hk:∀e∈kn,KnownOk P g rows e):
  EnvW P (envOf P n cs m fs g kn rows):=by
 have row:∀f s,(envOf P n cs m fs g kn rows).fn f=some s->∃fn,P.funcs[f]? =some fn/\s=⟨fn.ntmps,fn.results.toList,fn.body⟩/\fnGood fn=true:=by
  intro f s h;have h:(tab (fnRow P fs) m).get f=some s:=h;rw[tab_get]at h;split at h
  ·unfold fnRow at h
   split at h
   ·rename_i hmem
    split at h
    ·rename_i fn hfn
     refine⟨fn,hfn,(Option.some.inj h).symm,?_⟩;have:=List.all_eq_true.1 hf f (mem_of hmem);rw[hfn]at this;exact this
    ·cases h
   ·cases h
  ·cases h
 refine⟨⟨λt s h=> ?_,λf s h=> ?_⟩,λf s c h hb=> ?_,λf s fn h hfn=> ?_,hm,hk,λr hm=> ?_⟩
 ·have h:(tab (tyRow P cs) n).get t=some s:=h
  rw[tab_get]at h;split at h
  ·unfold tyRow at h
   split at h
   ·split at h
    ·rename_i hc
     have:=tyOf_cmp h;rw[this];exact⟨h,λ_=>cmpB_ok hc⟩
    ·have:=tyOf_cmp h
     rw[this];exact⟨h,λe=>by cases e⟩
   ·have:=tyOf_cmp h
    rw[this];exact⟨h,λe=>by cases e⟩
  ·cases h
 ·obtain⟨fn,h1,rfl,_⟩:=row f s h
  exact⟨fn,h1,rfl,rfl,rfl⟩
 ·obtain⟨fn,h1,rfl,h2⟩:=row f s h
  unfold fnGood at h2;rw[Bool.and_eq_true]at h2;have hb:fn.body=some c:=hb;rw[hb]at h2;exact h2.2
 ·obtain⟨fn',h1,rfl,h2⟩:=row f s h
  rw[h1]at hfn;cases hfn;unfold fnGood at h2;rw[Bool.and_eq_true]at h2;simpa using h2.1
 ·have:=List.all_eq_true.1 hr r hm
  rw[Bool.and_eq_true]at this;exact⟨by have:=this.1;rw[Nat.blt_eq]at this;exact this,this.2⟩
theorem hr0 {w:World} {g:Nat} {rows:List (Nat×List CV)} (hg:g<=w.heap.size) (hrows:∀r∈rows,r.1<g) (h:RowsAt w rows (rho0 g)):HR (rho0 g) (memOf g rows) w:=by
 have get:∀i b,(memOf g rows).get i=some b->∃cs,(i,cs)∈rows/\b= .cells cs true:=by
  intro i b hb;rcases memOf_get g rows .leaf i b hb with h|h
  ·exact h
  ·rw[Tree.get_leaf]at h;cases h
 have loc:∀i k d,rho0 g i=some (k,d)->i<g/\k=i/\d=0:=by
  intro i k d hi;have hi:(if i<g then some (i,0)else none)=some (k,d):=hi
  split at hi
  ·cases hi;exact⟨by assumption,rfl,rfl⟩
  ·cases hi
 refine⟨λi b hb=> ?_,λi j k d e _ _ _ _ _ h1 h2=> ?_,λi hi=> ?_,λi k d hi=> ?_⟩
 ·obtain⟨cs,hm,rfl⟩:=get i b hb
  obtain⟨arr,ty,fz,h1,h2,h3,h4⟩:=h _ hm;have hlt:=hrows _ hm;refine⟨i,0,by show(if i<g then some (i,0)else none)=_;rw[if_pos hlt],arr,ty,fz,h1,⟨by simpa using h2,Nat.zero_le _⟩,by simpa using h3,h4,λe=>by cases e⟩
 ·obtain⟨_,e1,_⟩:=loc _ _ _ h1
  obtain⟨_,e2,_⟩:=loc _ _ _ h2;omega
 ·have:¬i<g:=Nat.not_lt.2 hi
  show(if i<g then some (i,0)else none)=none
  rw[if_neg this]
 ·obtain⟨h1,rfl,_⟩:=loc _ _ _ hi
  omega
theorem kept_of_keep {L:Nat->Prop} {w w':World} (hL:∀b,¬L b) (k:Keep L w w') (may:MemPlace->Prop):w.keptBut w' may:=by
 refine⟨k.os,k.out,λi hi=> ?_⟩;rw[k.same i hi (hL i)];have hs:∃o,w.heap[i]? =some o:=⟨w.heap[i],by simp[hi]⟩;obtain⟨o,ho⟩:=hs;rw[ho];cases o<;>simp
theorem run_closed {P:Program} {E:Env} {m:Nat} {f:FuncId} {vs:List CV} {blks:List (List CV)} {v:CV} {h':Heap} (W:EnvW P E) (hrun:run E m (.call (.fn f [] []) vs) .leaf (heapOf E.globs E.rows blks)= .val v h') (hv:v.plain=true)
  {w:World} {ρ:Rho} {xs:List Value} (hH:HR ρ (heapOf E.globs E.rows blks) w) (hg:∀i,i<E.globs->ρ i=some (i,0)) (hx:VRs ρ vs xs):Calls P f xs.toArray w λe w'=>∃x,e= .returned x/\VR (rho0 E.globs) v x/\Keep (λ_=>False) w w':=by
 have g:GR E ρ (heapOf E.globs E.rows blks):=⟨hg,Nat.le_add_right _ _⟩;have:=(sound W m).call f [] [] vs (heapOf E.globs E.rows blks) (by rw[hrun];simp) ρ w xs hH g (by simpa using hx);rw[hrun]at this;refine this.mono λe w' p=> ?_;obtain⟨x,ρ',rfl,j,hvr⟩:=p;exact⟨x,rfl,hvr.plain hv,j.keep.os,j.keep.out,j.keep.size,λb hb _=>j.keep.same b hb heapOf_ro⟩
def mtT (g:Nat) (c a:CV):Option (List Nat):=match c with
 | .tup cs=>match a with
   | .tup as=>mtAs g cs as []
   |_=>none
 |_=>mtA g [] c a
def allW (h:Heap):List Nat->Bool
 |[]=>true
 |a::r=>match h.get a with
  |some (.cells _ ro)=>match ro with
   |true=>false
   |false=>allW h r
  |_=>false
def kMatch (g:Nat) (e:KE) (v:CV) (h:Heap):Bool:=match mtT g e.res v with
 |some τ=>match mtB h g e.news 0 τ with
  |some τ'=>match Nat.ble (len τ') (len e.news)with
   |true=>allW h τ'
   |false=>false
  |none=>false
 |none=>false
def R.gives (g:Nat) (e:KE):R->Bool
 | .val x h=>kMatch (g+len e.blks) e x h
 |_=>false
theorem gives_of {g:Nat} {e:KE} {r:R} (h:r.gives g e=true):∃v h',r= .val v h'/\kMatch (g+len e.blks) e v h'=true:=by
 unfold R.gives at h;split at h
 ·exact⟨_,_,rfl,h⟩
 ·cases h
theorem allW_mem {h:Heap}:∀{l:List Nat},allW h l=true->∀a∈l,∃cs,h.get a=some (.cells cs false)
 |[],_,a,ha=>by cases ha
 |b::r,e,a,ha=>by
  unfold allW at e;split at e
  ·rename_i cs ro hb
   split at e
   ·cases e
   ·rcases List.mem_cons.1 ha with rfl|ha
    ·exact⟨cs,hb⟩
    ·exact allW_mem e a ha
  ·cases e
theorem mtT_sound {g:Nat} {σ':List Nat} {c a:CV} (h:mtT g c a=some σ'):SOk g σ'/\∀(σF:List Nat) (ρ:Rho) (x:Value),σ'<+:σF->VR ρ a x->VR (rhoC ρ g σF) c x:=by
 have ok:SOk g []:=⟨List.nodup_nil,λa ha=>by cases ha⟩;unfold mtT at h;split at h
 ·split at h
  ·obtain⟨m1,_,m5⟩:=mtAs_sound h ok
   refine⟨m1,λσF ρ x hp hx=> ?_⟩;obtain⟨arr,rfl,h1⟩:=hx.inv_tup;exact VRs.tup (m5 σF ρ _ hp h1)
  ·cases h
 ·obtain⟨k1,_,k4⟩:=mtA_sound h ok
  exact⟨k1,k4⟩
theorem small_add {ρ ρ1:Rho} {w w':World} {g:Nat} {rows:List (Nat×List CV)} {e:KE} {v:CV} {h':Heap} (hr:HR ρ (heapOf g rows e.blks) w) (j:J ρ (heapOf g rows e.blks) w ρ1 h' w') (hm:kMatch (g+len e.blks) e v h'=true):
  ∃ρ2,J ρ (heapOf g rows e.blks) w ρ2 (kAdd (heapOf g rows e.blks) e.news) w'/\∀x,VR ρ1 v x->VR ρ2 e.res x:=by
 have hnx:(heapOf g rows e.blks).next=g+len e.blks:=rfl;unfold kMatch at hm;split at hm
 ·rename_i τ h1
  split at hm
  ·rename_i τ' h2
   split at hm
   ·rename_i h3
    obtain⟨k1,k4⟩:=mtT_sound h1;obtain⟨⟨m1,m1'⟩,m2,m3⟩:=mtB_sound h2 k1;have hl:=Nat.le_of_ble_eq_true h3;rw[len_eq,len_eq]at hl;have hW:=allW_mem hm;have ge:∀n,¬g+len e.blks+n<g+len e.blks:=λn=>by omega
    have sub:∀n,g+len e.blks+n-(g+len e.blks)=n:=λn=>by omega
    have at_:∀n a,τ'[n]? =some a->(rhoC ρ1 (g+len e.blks) τ') (g+len e.blks+n)=ρ1 a/\(rhoC ρ1 (g+len e.blks) τ').room (g+len e.blks+n)=ρ1.room a:=λn a ha=>rhoC_ge (ge n) (by rw[sub n];exact ha);refine⟨rhoC ρ1 (g+len e.blks) τ',J.add hr (λi hi=> ?_) (λi hi=> ?_) ⟨j.keep.os,j.keep.out,j.keep.size,λb hb _=>j.keep.same b hb heapOf_ro⟩ (λn b hb=> ?_) (λn k d hn=> ?_) (λn m b c k d e' hb hc q1 q2=> ?_),λx hx=>k4 _ ρ1 x m2 hx⟩
    ·rw[hnx]at hi
     obtain⟨c1,c2⟩:=rhoC_lt (ρ:=ρ1) (σ:=τ') hi;obtain⟨o1,o2⟩:=j.ext i (by rw[hnx];exact hi);exact⟨c1.trans o1,c2.trans o2⟩
    ·rw[hnx]at hi
     show(if i<g+len e.blks then ρ1 i else match τ'[i-(g+len e.blks)]? with|some a=>ρ1 a|none=>none)=none
     rw[if_neg (by omega),List.getElem?_eq_none (by omega)]
    ·obtain⟨a,cs,ro,q1,q2,q3,q4,q5⟩:=m3 n b hb
     rw[Nat.zero_add]at q1;obtain⟨cs2,q6⟩:=hW a (List.mem_of_getElem? q1);rw[q2]at q6;cases q6;obtain⟨k,d,r1,arr,ty,fz,r2,r3,r4,r5,r6⟩:=j.hr.blk a _ q2;obtain⟨t1,t2⟩:=at_ n a q1
     have hs:w.heap.size<=k:=by
      rcases j.ownW k ⟨a,d,_,q2,rfl,r1⟩with h|h
      ·exact h
      ·exact absurd h heapOf_ro
     rw[hnx];refine⟨k,d,t1.trans r1,hs,arr,ty,fz,r2,?_,?_,q3,r6⟩
     ·rw[t2,q4];exact r3
     ·rw[q4];exact q5 _ ρ1 _ (List.prefix_refl _) r4
    ·rw[hnx]at hn
     rcases rhoC_some hn with⟨i1,_⟩|⟨_,a,_,i3⟩
     ·omega
     ·exact j.hr.lt _ _ _ i3
    ·obtain⟨a,cs,ro,p1,p2,_⟩:=m3 n b hb
     obtain⟨a',cs',ro',p1',p2',_⟩:=m3 m c hc;rw[Nat.zero_add]at p1 p1';obtain⟨u,hu⟩:=hW a (List.mem_of_getElem? p1);rw[p2]at hu;cases hu;rw[hnx,(at_ n a p1).1]at q1;rw[hnx,(at_ m a' p1').1]at q2;have:=j.hr.inj a a' k d e' _ _ p2 p2' (.inl rfl) q1 q2;subst this;obtain⟨l1,l2⟩:=List.getElem?_eq_some_iff.1 p1;obtain⟨l3,l4⟩:=List.getElem?_eq_some_iff.1 p1';exact(List.getElem?_inj l1 m1).1 (p1.trans p1'.symm)
   ·cases hm
  ·cases hm
 ·cases hm
theorem known_of {P:Program} {E:Env} {m:Nat} {e:KE} (W:EnvW P E) (hrun:(run E m (.call (.fn e.f [] []) e.args) .leaf (heapOf E.globs E.rows e.blks)).gives E.globs e=true):KnownOk P E.globs E.rows e:=by
 obtain⟨v,h',hrr,hm⟩:=gives_of hrun;refine⟨call_fn W (id:=e.f) (first:=[]) (caps:=[]) (args:=e.args) (tmps:= .leaf) (h:=heapOf E.globs E.rows e.blks) (m:=m) (by rw[hrr];simp),λw ρ xs hH hg hx=> ?_⟩;have g:GR E ρ (heapOf E.globs E.rows e.blks):=⟨hg,Nat.le_add_right _ _⟩;have:=(sound W m).call e.f [] [] e.args (heapOf E.globs E.rows e.blks) (by rw[hrr];simp) ρ w xs hH g (by simpa using hx);rw[hrr]at this;refine this.mono λe' w' p=> ?_;obtain⟨x,ρ',rfl,j,hvr⟩:=p;obtain⟨ρ2,j2,h2⟩:=small_add hH j hm;exact⟨x,ρ2,rfl,j2,h2 x hvr⟩
theorem rowsAt_of_trod {P:Program} {w:World} {H:Type} {enc:TypeId×Value->H} {base fuel:Nat} {spare:Nat->Bool} {held:Bool} {name:String} {g:Nat} {t e:TypeId} {k:IntKind} {ns:List Int} {cs:Array Value} {ps:List MemPlace} {ρ:Rho}
  (hg:P.globalNamed name=some g) (hv:w.var? P name=some cs) (ht:P.underlying t=some (.array ns.length e)) (he:P.underlying e=some (.int k)) (h1:P.cellsOf e=1) (h2:P.cellsOf t=ns.length)
  (hd:DataW.trod enc P w base spare held fuel t cs.toList=some (.agg (ns.map λn=> .lit (.int k n)),ps)):RowsAt w [(g,ns.map (CV.int k))] ρ:=by
 intro r hr;rw[List.mem_singleton]at hr;subst hr;simp only[World.var?,hg,Option.bind_some]at hv
 have hcs:∃ty fz,w.heap[g]? =some (.cells cs ty fz):=by
  split at hv
  ·rename_i cs' ty fz hw
   cases hv;exact⟨ty,fz,hw⟩
  ·cases hv
 obtain⟨ty,fz,hw⟩:=hcs;obtain⟨xs,m1,rfl,hx1,hlen,hn,hel⟩:=DataW.trod_array ht hd;have hlen:cs.size=ns.length:=by simpa[h2]using hlen
 simp only[Prod.mk.injEq,DataW.agg.injEq]at hx1;refine⟨cs,ty,fz,hw,by simp[hlen],?_,by simp[CV.one]⟩;refine⟨by simp[hlen],λi hi=> ?_⟩;have hi:i<ns.length:=by simpa using hi
 have hi2:i<xs.length:=by omega
 have hcell:=hel i hi;rw[h1,List.getElem?_eq_getElem hi2]at hcell;obtain⟨n,e1,e2,_⟩:=DataW.trod_int he (show DataW.trod enc P w base spare held m1 e _=some (xs[i].1,xs[i].2)from hcell);have hxi:(xs.map (·.1))[i]? =some (.lit (.int k ns[i])):=by rw[<-hx1.1];simp[hi]
 rw[List.getElem?_map,List.getElem?_eq_getElem hi2]at hxi;simp only[Option.map_some,Option.some.injEq]at hxi;rw[hxi]at e2;simp only[Prod.mk.injEq,DataW.lit.injEq,Lit.int.injEq,true_and]at e2;obtain⟨e2,_⟩:=e2
 have hc:cs.toList[i]? =some (.int k n):=by
  have:((cs.toList.drop (i*1)).take 1)[0]? =some (.int k n):=by rw[e1];rfl
  simpa using this
 have hL:(ns.map (CV.int k)).getD i .undef= .int k ns[i]:=by simp[List.getD_eq_getElem?_getD,hi]
 have hR:((cs.toList.take (ns.map (CV.int k)).length).getD i undef)= .int k n:=by
  rw[List.getD_eq_getElem?_getD,List.getElem?_take,if_pos (by simpa using hi),hc];rfl
 rw[hL,hR,e2];exact .int _ _
end Go.CM
