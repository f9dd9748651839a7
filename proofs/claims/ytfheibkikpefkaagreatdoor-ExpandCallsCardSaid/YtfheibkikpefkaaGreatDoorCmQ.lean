/- Drawn regions: what an operation touches. No condition. -/
import Derived.Test.YtfheibkikpefkaaGreatDoorCmO
import Derived.Orders
set_option linter.unusedVariables false
set_option linter.unusedSimpArgs false
noncomputable section
namespace Go.CM
section
variable {E:Env} {f:Operand->CV} {h h':Heap} {v:CV}
structure Touch (l:List Nat) (h h':Heap):Prop where
 next:h.next<=h'.next
 same:∀k,k∉l->¬(h.next<=k/\k<h'.next)->h'.get k=h.get k
 made:∀k,h.next<=k->k<h'.next->h'.get k≠none
theorem Touch.refl (h:Heap):Touch [] h h:=⟨Nat.le_refl _,λ_ _ _=>rfl,λk h1 h2=>by omega⟩
theorem Touch.new (h:Heap) (b:Blk):Touch [] h (h.new b):=⟨Nat.le_succ _,λk _ hk=>by
 rw[aS,if_neg];intro e;exact hk ⟨by omega,by show k<h.next+1;omega⟩,λk h1 h2=>by
 have h2:k<h.next+1:=h2;rw[aS,if_pos (by omega)];simp⟩
theorem Touch.put (h:Heap) (i:Nat) (b:Blk):Touch [i] h (h.put i b):=⟨Nat.le_refl _,λk hk _=>by
 rw[aA,if_neg];intro e;exact hk (by simp[e]),λk h1 h2=>by
 have h2:k<h.next:=h2;omega⟩
theorem Touch.del_new (h:Heap) (i:Nat) (b:Blk):Touch [i] h ((h.del i).new b):=⟨Nat.le_succ _,λk hk hn=>by
 have e1:h.next≠k:=by
  intro e;exact hn ⟨by omega,by show k<h.next+1;omega⟩
 have e2:i≠k:=by
  intro e;exact hk (by simp[e])
 rw[aS];show(if h.next=k then _ else(h.del i).get k)=_
 rw[if_neg e1,aO,if_neg e2],λk h1 h2=>by
 have h2:k<h.next+1:=h2;rw[aS];show(if h.next=k then _ else _)≠none
 rw[if_pos (by omega)];simp⟩
theorem Touch.mono {l l':List Nat} (t:Touch l h h') (s:∀k,k∈l->k∈l'):Touch l' h h':=⟨t.next,λk hk hn=>t.same k (λhh=>hk (s k hh)) hn,t.made⟩
theorem aY {r:Option CV} (e:bM h r=some (v,h')):Touch [] h h':=by
 obtain⟨_,e⟩:=bI e;simp only at e;subst e;exact .refl _
theorem qV {cs:Option (List CV)} (e:iO h cs=some (v,h')):Touch [] h h':=by
 obtain⟨l,_,e⟩:=mQ e;cases e;exact .new _ _
theorem tH {n c:Nat} {cs:Option (List CV)} (e:yF h n c cs=some (v,h')):Touch [] h h':=by
 obtain⟨l,_,e⟩:=pS e;cases e;exact .new _ _
theorem fN {i off:Nat} {vs:List CV} (e:dU h i off vs=some h'):Touch [i] h h':=by
 unfold dU at e;split at e
 ·simp only[Option.map_eq_some_iff]at e
  obtain⟨_,_,rfl⟩:=e;exact .put _ _ _
 ·cases e
theorem qW {s:Option TyS} {m k x:CV} (e:oI E s m k x h=some (v,h')):Touch (idOf m) h h':=by
 unfold oI at e;split at e
 ·split at e
  ·split at e
   ·split at e
    ·rename_i r
     split at e
     ·split at e
      ·cases e;exact .put _ _ _
      ·cases e;exact .put _ _ _
      ·cases e
     ·cases e
    ·cases e
   ·cases e
  ·cases e
 ·cases e
theorem vU {s:Option TyS} {m k:CV} (e:fW E s m k h=some (v,h')):Touch (idOf m) h h':=by
 unfold fW at e;split at e
 ·split at e
  ·split at e
   ·split at e
    ·rename_i r
     split at e
     ·split at e
      ·split at e
       ·cases e;exact .put _ _ _
       ·cases e
      ·split at e
       ·cases e;exact .put _ _ _
       ·cases e
      ·cases e
     ·cases e
    ·cases e
   ·cases e
  ·cases e
 ·cases e
theorem sL {m k x:CV} (e:eH m k x h=some (v,h')):Touch (idOf m) h h':=by
 unfold eH at e;split at e
 ·split at e
  ·split at e
   ·split at e
    ·cases e;exact .put _ _ _
    ·cases e
   ·cases e
  ·cases e
 ·cases e
theorem aCa {o:Op} (e:oR E o f h=some (v,h')):Touch (match dT o with|true=>iS o f|false=>[]) h h':=by
 unfold oR at e;split at e
 ·cases e;exact .refl _
 ·cases e;exact .refl _
 ·unfold aGs at e
  split at e
  ·split at e<;>(cases e;exact .refl _)
  ·cases e
 ·exact qV e
 ·exact qV e
 ·unfold aAc at e
  split at e
  ·split at e
   ·split at e
    ·exact aY e
    ·cases e
   ·split at e
    ·exact aY e
    ·cases e
   ·cases e
  ·cases e
 ·unfold jF at e
  split at e
  ·split at e
   ·split at e
    ·split at e
     ·exact tH e
     ·cases e
    ·cases e
   ·cases e
  ·cases e
 ·unfold hV at e
  split at e
  ·exact aY e
  ·cases e
 ·rename_i t a vv
  unfold hO aTz at e;split at e
  ·rename_i p hp
   split at e
   ·rename_i h2 hs
    cases e;unfold store pM at hs;split at hs
    ·split at hs
     ·split at hs
      ·refine(fN hs).mono λk hk=> ?_
       simp only[dT,iS,hp,idOf];exact hk
      ·cases hs
     ·cases hs
    ·cases hs
   ·cases e
  ·cases e
 ·unfold aPt at e
  split at e<;>first|(cases e;exact .refl _)|cases e
 ·exact aY e
 ·exact aY e
 ·unfold qT at e
  split at e
  ·split at e
   ·split at e
    ·split at e
     ·cases e;exact .refl _
     ·cases e
    ·split at e
     ·cases e;exact .refl _
     ·split at e
      ·split at e
       ·split at e
        ·cases e;exact .refl _
        ·split at e
         ·exact aY e
         ·cases e
       ·cases e
      ·cases e
     ·cases e
    ·cases e
   ·cases e
  ·cases e
 ·unfold lF at e
  split at e
  ·split at e
   ·cases e
   ·cases e;exact .refl _
  ·cases e
 ·cases e;exact .refl _
 ·cases e;exact .new _ _
 ·unfold lE at e
  split at e
  ·split at e
   ·split at e
    ·split at e
     ·split at e
      ·split at e
       ·split at e
        ·split at e
         ·exact tH e
         ·cases e
        ·cases e
       ·cases e
      ·cases e
     ·cases e
    ·cases e
   ·cases e
  ·cases e
 ·exact aY e
 ·unfold lG at e
  split at e
  ·split at e
   ·split at e
    ·cases e;exact .refl _
    ·cases e
   ·cases e
  ·cases e
 ·unfold aAb at e
  split at e
  ·split at e
   ·split at e
    ·exact aY e
    ·cases e
   ·cases e
  ·cases e
 ·unfold cY at e
  have at0:∀{i o:Nat} {z p:Option Nat},lT i o z p h=some (v,h')->Touch [] h h':=by
   intro i o z p e;unfold lT at e;split at e
   ·split at e
    ·cases e;exact .refl _
    ·cases e
   ·cases e
  split at e
  ·split at e
   ·split at e
    ·split at e
     ·exact at0 e
     ·cases e
    ·split at e
     ·exact at0 e
     ·cases e
    ·cases e
   ·cases e
  ·cases e
 ·unfold mO at e
  split at e
  ·split at e
   ·split at e
    ·split at e
     ·split at e
      ·split at e
       ·exact aY e
       ·cases e
      ·cases e
     ·cases e
    ·split at e
     ·split at e
      ·split at e
       ·cases e;exact .refl _
       ·cases e
      ·cases e
     ·cases e
    ·cases e
   ·cases e
  ·cases e
 ·exact aY e
 ·unfold uL at e
  split at e
  ·split at e
   ·cases e
   ·split at e
    ·split at e
     ·cases e;exact .refl _
     ·split at e
      ·exact aY e
      ·cases e
    ·split at e
     ·exact aY e
     ·cases e
    ·cases e
  ·cases e
 ·exact aY e
 ·exact qW e
 ·exact qW e
 ·exact vU e
 ·exact sL e
 ·cases e
theorem xJ {es:TyS} {s x:CV} (e:mP h es s x=some (v,h')):Touch [] h h':=by
 unfold mP at e;split at e
 ·split at e
  ·split at e
   ·split at e
    ·split at e
     ·split at e
      ·cases e
      ·split at e
       ·cases e;exact .new _ _
       ·cases e
     ·cases e
    ·cases e
   ·cases e
  ·cases e
 ·cases e
theorem rO {ts t2:Option TyS} {s x:CV} (e:dN E h ts t2 s x=some (v,h')):Touch (idOf s) h h':=by
 unfold dN at e;split at e
 ·split at e
  ·split at e
   ·rename_i base n cap ex
    split at e
    ·split at e
     ·cases e
     ·split at e
      ·split at e
       ·exact(xJ e).mono λk hk=>by cases hk
       ·split at e
        ·split at e
         ·unfold eW at e
          split at e
          ·split at e
           ·cases e;exact(Touch.refl _).mono λk hk=>by cases hk
           ·split at e
            ·cases e;exact(Touch.refl _).mono λk hk=>by cases hk
            ·split at e
             ·rename_i h2 hp
              cases e;exact fN hp
             ·cases e
          ·split at e
           ·split at e
            ·unfold iQ at e
             split at e
             ·cases e;exact(Touch.new _ _).mono λk hk=>by cases hk
             ·split at e
              ·split at e
               ·split at e
                ·cases e;exact .del_new _ _ _
                ·cases e
               ·cases e
              ·cases e
            ·cases e
           ·cases e
         ·cases e
        ·cases e
      ·cases e
    ·cases e
   ·cases e
  ·cases e
 ·cases e
theorem aFh {ts:Option TyS} {s x:CV} (e:aCc E h ts s x=some (v,h')):Touch (idOf s) h h':=by
 unfold aCc at e;split at e
 ·split at e
  ·split at e
   ·split at e
    ·split at e
     ·split at e
      ·cases e;exact(Touch.refl _).mono λk hk=>by cases hk
      ·split at e
       ·split at e
        ·cases e
        ·split at e
         ·rename_i h2 hp
          cases e;exact fN hp
         ·cases e
       ·cases e
     ·cases e
    ·cases e
   ·split at e
    ·split at e
     ·cases e;exact(Touch.refl _).mono λk hk=>by cases hk
     ·cases e
    ·cases e
   ·cases e
  ·cases e
 ·cases e
theorem aDk {ts:Option TyS} {x:CV} (e:vQ E h ts x=some (v,h')):Touch (idOf x) h h':=by
 unfold vQ at e;split at e
 ·split at e
  ·split at e
   ·cases e;exact(Touch.refl _).mono λk hk=>by cases hk
   ·cases e;exact(Touch.refl _).mono λk hk=>by cases hk
   ·split at e
    ·cases e;exact(Touch.refl _).mono λk hk=>by cases hk
    ·split at e
     ·split at e
      ·rename_i h2 hp
       cases e;exact fN hp
      ·cases e
     ·cases e
   ·cases e
  ·cases e
 ·cases e
theorem aAs {ts:Option TyS} {x y:CV} (e:qS E h ts x y=some (v,h')):Touch (idOf x) h h':=by
 unfold qS at e;split at e
 ·split at e
  ·split at e
   ·split at e
    ·cases e;exact(Touch.refl _).mono λk hk=>by cases hk
    ·split at e
     ·split at e
      ·cases e;exact Touch.put _ _ _
      ·cases e;exact Touch.put _ _ _
      ·cases e
     ·cases e
    ·cases e
   ·cases e
  ·cases e
 ·cases e
theorem xI {b:Builtin} {args:Array Operand} {tys:Array TypeId} (e:aW E h b tys.toList (args.toList.map f)=some (v,h')):
  Touch (match dT (.call {callee:= .builtin b,args:=args,argTypes:=tys})with|true=>iS (.call {callee:= .builtin b,args:=args,argTypes:=tys}) f|false=>[]) h h':=by
 have hfp:(match dT (.call {callee:= .builtin b,args:=args,argTypes:=tys})with|true=>iS (.call {callee:= .builtin b,args:=args,argTypes:=tys}) f|false=>[])=(match dT (.call {callee:= .builtin b,args:=args,argTypes:=tys})with|true=>((args.toList.map f).map idOf).flatten|false=>[]):=by
  cases b<;>simp only[dT,iS,List.map_map,Function.comp_def]
 rw[hfp];generalize args.toList.map f=vs at e;unfold aW at e;split at e
 ·split at e
  ·split at e
   ·exact aY e
   ·cases e
  ·cases e
 ·split at e
  ·split at e
   ·refine(rO e).mono λk hk=> ?_
    simp only[dT,List.map_cons,List.flatten_cons];exact List.mem_append_left _ hk
   ·cases e
  ·cases e
 ·split at e
  ·split at e
   ·refine(aFh e).mono λk hk=> ?_
    simp only[dT,List.map_cons,List.flatten_cons];exact List.mem_append_left _ hk
   ·cases e
  ·cases e
 ·split at e
  ·exact aY e
  ·cases e
 ·split at e
  ·exact aY e
  ·cases e
 ·split at e
  ·split at e
   ·exact aY e
   ·cases e
  ·cases e
 ·split at e
  ·split at e
   ·refine(aDk e).mono λk hk=> ?_
    simp only[dT,List.map_cons,List.flatten_cons];exact List.mem_append_left _ hk
   ·cases e
  ·cases e
 ·split at e
  ·split at e
   ·refine(aAs e).mono λk hk=> ?_
    simp only[dT,List.map_cons,List.flatten_cons];exact List.mem_append_left _ hk
   ·cases e
  ·cases e
 ·cases e
theorem aJn {tys:List TypeId} {vs:List CV} (e:aW E h .append tys vs=some (v,h')):Touch (aMz vs) h h':=by
 unfold aW at e;simp only at e;split at e
 ·split at e
  ·exact rO e
  ·cases e
 ·cases e
theorem wB {b:Builtin} (h:aCs b=true):b= .append:=by
 cases b<;>first|rfl|cases h
theorem aMy (l:List CV):∀k∈aMz l,k∈(l.map idOf).flatten:=λk hk=>by
 cases l with
 |nil=>exact hk
 |cons s r=>exact List.mem_append_left _ hk
theorem aT (h:Heap):∀l,(only h l).next=h.next
 |[]=>rfl
 |_::_=>rfl
theorem cC (h:Heap):∀(l:List Nat) (k:Nat),(only h l).get k=if k∈l then h.get k else none
 |[],k=>by simp[only,Heap.get,Tree.get_leaf]
 |i::l,k=>by
  show((only h l).t.set i (h.get i)).get k=_;rw[Tree.get_set];by_cases e:i=k
  ·subst e;simp
  ·rw[if_neg e]
   have:(only h l).t.get k=(only h l).get k:=rfl;rw[this,cC h l k];simp[Ne.symm e]
theorem qB (h:Heap):∀l,(cU h l).next=h.next
 |[]=>rfl
 |_::l=>qB h l
theorem gV (h:Heap):∀(l:List Nat) (k:Nat),(cU h l).get k=if k∈l then none else h.get k
 |[],k=>by simp[cU]
 |i::l,k=>by
  show((cU h l).del i).get k=_;rw[aO];by_cases e:i=k
  ·subst e;simp
  ·rw[if_neg e,gV h l k]
   simp[Ne.symm e]
theorem bQ (h d:Heap):∀l,(cB h d l).next=d.next
 |[]=>rfl
 |_::_=>rfl
theorem bL (h d:Heap):∀(l:List Nat) (k:Nat),(cB h d l).get k=if k∈l then d.get k else h.get k
 |[],k=>by simp[cB,Heap.get]
 |i::l,k=>by
  show((cB h d l).t.set i (d.get i)).get k=_;rw[Tree.get_set];by_cases e:i=k
  ·subst e;simp
  ·rw[if_neg e]
   have:(cB h d l).t.get k=(cB h d l).get k:=rfl;rw[this,bL h d l k];simp[Ne.symm e]
theorem fQ (lo:Nat):∀(n k:Nat),k∈bC lo n↔lo<=k/\k<lo+n
 |0,k=>by
  have:bC lo 0=[]:=rfl;rw[this];simp
 |n+1,k=>by
  have:bC lo (n+1)=(lo+n)::bC lo n:=rfl;rw[this,List.mem_cons,fQ lo n k];omega
theorem lI (i:Nat):∀l,oS i l=true↔i∈l
 |[]=>by simp[oS]
 |j::l=>by
  unfold oS;cases hb:Nat.beq i j with
  |true=>simp[Nat.eq_of_beq_eq_true hb]
  |false=>
   have hne:i≠j:=by intro e;subst e;rw[Nat.beq_refl]at hb;cases hb
   simp only[List.mem_cons,hne,false_or];exact lI i l
theorem iW (p:Nat->Bool):∀l,fK l p=true↔∀k∈l,p k=true
 |[]=>by simp[fK]
 |i::l=>by
  have:fK (i::l) p=match p i with|true=>fK l p|false=>false:=rfl
  rw[this];cases hp:p i with
  |true=>
   simp only[List.mem_cons,forall_eq_or_imp,hp,true_and];exact iW p l
  |false=>simp[hp]
theorem uT (i lo hi:Nat):jN i lo hi=true↔lo<=i/\i<hi:=by
 unfold jN;rw[Bool.and_eq_true,Nat.ble_eq,Nat.blt_eq]
theorem mV (b:Option Blk):uH b=true↔b=none:=by cases b<;>simp[uH]
end
end Go.CM

noncomputable section
namespace Go.CM
structure Ev where
 on:Bool
 v:CV
 d:Heap
 d':Heap
def Ev.T (e:Ev) (k:Nat):Prop:=e.d'.get k≠e.d.get k
def Ev.Silent (e:Ev):Prop:=∀k,e.d.get k=none/\e.d'.get k=none
structure Apart (x y:Ev):Prop where
 l:∀k,x.T k->y.d.get k=none
 r:∀k,y.T k->x.d.get k=none
 n:∀k,x.T k->y.T k->False
theorem pJ {x y:Ev} (s:x.Silent):Apart x y:=⟨λk h=>absurd ((s k).2.trans (s k).1.symm) h,λk _=>(s k).1,λk h=>absurd ((s k).2.trans (s k).1.symm) h⟩
theorem pI {x y:Ev} (s:y.Silent):Apart x y:=⟨λk _=>(s k).1,λk h=>absurd ((s k).2.trans (s k).1.symm) h,λk _ h=>absurd ((s k).2.trans (s k).1.symm) h⟩
def jM (r:Rec) (e:Ev):Prop:=
 match r with
 | .op _ fp wr lo hi=>(∀k,e.d.get k≠none->k∈fp)/\(∀k,e.T k->(wr=true/\k∈fp)\/(lo<=k/\k<hi))/\e.d.next=lo/\e.d'.next=hi
 | .call _ d d'=>e.d=d/\e.d'=d'
 | .opw _ fp ws lo hi=>(∀k,e.d.get k≠none->k∈fp)/\(∀k,e.T k->k∈ws\/(lo<=k/\k<hi))/\e.d.next=lo/\e.d'.next=hi/\∀k∈ws,k∈fp
section
variable {P:Program} {E:Env}
theorem lD {r:Rec} {x:Ev} {fp:List Nat} {wr:Bool} {lo n:Nat} (hx:jM r x) (hle:x.d'.next<=lo) (e:cP fp wr (bC lo n) r=true):
  (∀k∈fp,¬x.T k)/\(wr=true->∀k∈fp,x.d.get k=none)/\∀k,lo<=k->k<lo+n->x.d.get k=none/\¬x.T k:=by
 have news:∀k,lo<=k->k<lo+n->k∈bC lo n:=λk h1 h2=>(fQ _ _ _).2 ⟨h1,h2⟩;cases r with
 |op i fp' wr' lo' hi'=>
  obtain⟨x1,x2,x3,x4⟩:=hx;unfold cP at e;simp only at e;split at e
  ·rename_i e1
   rw[iW]at e e1
   have c1:∀k∈fp,¬(lo'<=k/\k<hi')/\((wr=true\/wr'=true)->k∉fp'):=by
    intro k hk;have:=e1 k hk;split at this
    ·cases this
    ·rename_i hw
     refine⟨(λhh=>by rw[(uT _ _ _).2 hh]at hw;cases hw),λhor=> ?_⟩;have hor:(wr||wr')=true:=by rw[Bool.or_eq_true];exact hor
     rw[hor]at this;simp only[Bool.not_eq_true']at this;intro hm;rw[(lI _ _).2 hm]at this;cases this
   have c2:∀k,lo<=k->k<lo+n->k∉fp':=by
    intro k h1 h2 hm;have:=e k (news k h1 h2);rw[(lI _ _).2 hm]at this;cases this
   refine⟨λk hk hT=> ?_,λhw k hk=>Classical.byContradiction λh=>(c1 k hk).2 (.inl hw) (x1 k h),λk h1 h2=>⟨Classical.byContradiction λh=>c2 k h1 h2 (x1 k h),λhT=> ?_⟩⟩
   ·rcases x2 k hT with⟨w1,w2⟩|w
    ·exact(c1 k hk).2 (.inr w1) w2
    ·exact(c1 k hk).1 w
   ·rcases x2 k hT with⟨w1,w2⟩|w
    ·exact c2 k h1 h2 w2
    ·omega
  ·cases e
 |opw i fp' ws' lo' hi'=>
  obtain⟨x1,x2,x3,x4,x5⟩:=hx;unfold cP at e;simp only at e;split at e
  ·rename_i e1
   rw[iW]at e e1
   have c1:∀k∈fp,¬(lo'<=k/\k<hi')/\k∉ws'/\(wr=true->k∉fp'):=by
    intro k hk;have:=e1 k hk;split at this
    ·cases this
    ·rename_i hw
     rw[Bool.or_eq_false_iff]at hw;refine⟨(λhh=>by rw[(uT _ _ _).2 hh]at hw;cases hw.1),(λhm=>by rw[(lI _ _).2 hm]at hw;cases hw.2),λhor hm=> ?_⟩;rw[hor,(lI _ _).2 hm]at this;cases this
   have c2:∀k,lo<=k->k<lo+n->k∉fp':=by
    intro k h1 h2 hm;have:=e k (news k h1 h2);rw[(lI _ _).2 hm]at this;cases this
   refine⟨λk hk hT=> ?_,λhw k hk=>Classical.byContradiction λh=>(c1 k hk).2.2 hw (x1 k h),λk h1 h2=>⟨Classical.byContradiction λh=>c2 k h1 h2 (x1 k h),λhT=> ?_⟩⟩
   ·rcases x2 k hT with w|w
    ·exact(c1 k hk).2.1 w
    ·exact(c1 k hk).1 w
   ·rcases x2 k hT with w|w
    ·exact c2 k h1 h2 (x5 k w)
    ·omega
  ·cases e
 |call i d d'=>
  obtain⟨rfl,rfl⟩:=hx;unfold cP at e;simp only at e;split at e
  ·rename_i e1
   rw[iW]at e e1
   have c1:∀k∈fp,x.d.get k=x.d'.get k/\(wr=true->x.d.get k=none):=by
    intro k hk;have:=e1 k hk;split at this
    ·rename_i hb
     refine⟨nI hb,λhw=> ?_⟩;rw[hw]at this;exact(mV _).1 this
    ·cases this
   refine⟨λk hk hT=>hT (c1 k hk).1.symm,λhw k hk=>(c1 k hk).2 hw,λk h1 h2=> ?_⟩;have:=e k (news k h1 h2);split at this
   ·rename_i hb
    exact⟨(mV _).1 hb,λhT=>hT (((mV _).1 this).trans ((mV _).1 hb).symm)⟩
   ·cases this
  ·cases e
theorem wO {x y:Ev} {fp ws:List Nat} {lo hi:Nat} (y1:∀k,y.d.get k≠none->k∈fp) (y2:∀k,y.T k->k∈ws\/(lo<=k/\k<hi)) (a:∀k∈fp,¬x.T k) (b:∀k∈ws,¬x.T k/\x.d.get k=none) (c:∀k,lo<=k->k<hi->x.d.get k=none/\¬x.T k):Apart x y:=
 ⟨λk hk=>Classical.byContradiction λh=>a k (y1 k h) hk,λk hk=>(y2 k hk).elim (λw=>(b k w).2) (λw=>(c k w.1 w.2).1),λk hk hk2=>(y2 k hk2).elim (λw=>(b k w).1 hk) (λw=>(c k w.1 w.2).2 hk)⟩
theorem aAa {r:Rec} {x y:Ev} {j:Nat} {fp:List Nat} {wr:Bool} {lo hi:Nat} (hx:jM r x) (hy:jM (.op j fp wr lo hi) y) (hlh:lo<=hi) (hle:x.d'.next<=lo) (e:cP fp wr (bC lo (hi-lo)) r=true):Apart x y:=by
 obtain⟨y1,y2,y3,y4⟩:=hy;obtain⟨a,b,c⟩:=lD hx hle e;rw[show lo+(hi-lo)=hi by omega]at c;cases wr with
 |true=>exact wO (ws:=fp) y1 (λk hk=>(y2 k hk).imp (·.2) id) a (λk hk=>⟨a k hk,b rfl k hk⟩) c
 |false=>exact wO (ws:=[]) y1 (λk hk=>(y2 k hk).elim (λw=>by cases w.1) .inr) a (λk hk=>by cases hk) c
theorem xG {r:Rec} {x y:Ev} {j:Nat} {fp ws:List Nat} {lo hi:Nat} (hx:jM r x) (hy:jM (.opw j fp ws lo hi) y) (hlh:lo<=hi) (hle:x.d'.next<=lo) (e:cP fp false (bC lo (hi-lo)) r=true) (e2:cP ws true (bC lo (hi-lo)) r=true):Apart x y:=by
 obtain⟨y1,y2,y3,y4,y5⟩:=hy;obtain⟨a,b,c⟩:=lD hx hle e;obtain⟨a2,b2,c2⟩:=lD hx hle e2;rw[show lo+(hi-lo)=hi by omega]at c;exact wO y1 y2 a (λk hk=>⟨a2 k hk,b2 rfl k hk⟩) c
theorem eV {ahead:Bits} {fp:List Nat} {wr:Bool} {news:List Nat}:∀{rs:List Rec},aN ahead fp wr news rs=true->∀r∈rs,recIdx r∈ahead\/cP fp wr news r=true
 |[],_,r,hr=>by cases hr
 |x::rs,e,r,hr=>by
  unfold aN at e;split at e
  ·rename_i h1
   rcases List.mem_cons.1 hr with rfl|hr
   ·exact .inr h1
   ·exact eV e r hr
  ·split at e
   ·rename_i h1
    rcases List.mem_cons.1 hr with rfl|hr
    ·exact .inl h1
    ·exact eV e r hr
   ·cases e
theorem tL {ahead:Bits}:∀{rs:List Rec} {hid:List Nat},rC ahead rs=some hid->∀r∈rs,recIdx r∈ahead\/∀x,jM r x->∀k,x.T k->k∈hid
 |[],_,_,r,hr=>by cases hr
 |x::rs,hid,e,r,hr=>by
  unfold rC at e;split at e
  ·cases e
  ·rename_i l hl
   have ih:=tL hl;split at e
   ·rename_i h1
    cases e;rcases List.mem_cons.1 hr with rfl|hr
    ·exact .inl h1
    ·exact ih r hr
   ·cases x with
    |op i fp wr lo hi=>
     simp only at e;cases e;rcases List.mem_cons.1 hr with rfl|hr
     ·refine .inr λx hx k hk=> ?_
      simp only[List.mem_append];rcases hx.2.1 k hk with⟨w1,w2⟩|w
      ·exact .inl (.inr (by rw[w1];exact w2))
      ·exact .inl (.inl ((fQ _ _ _).2 (by omega)))
     ·exact(ih r hr).imp id λh x hx k hk=>List.mem_append_right _ (h x hx k hk)
    |opw i fp ws lo hi=>
     simp only at e;cases e;rcases List.mem_cons.1 hr with rfl|hr
     ·refine .inr λx hx k hk=> ?_
      simp only[List.mem_append];rcases hx.2.1 k hk with w|w
      ·exact .inl (.inr w)
      ·exact .inl (.inl ((fQ _ _ _).2 (by omega)))
     ·exact(ih r hr).imp id λh x hx k hk=>List.mem_append_right _ (h x hx k hk)
    |call i d d'=>cases e
theorem jG {ahead:Bits} {d d':Heap}:∀{rs:List Rec},mR ahead d d' rs=true->∀r∈rs,recIdx r∈ahead\/∀x,jM r x->∀k,x.d.get k≠none->d.get k=d'.get k
 |[],_,r,hr=>by cases hr
 |x::rs,e,r,hr=>by
  unfold mR at e;split at e
  ·rename_i h1
   rcases List.mem_cons.1 hr with rfl|hr
   ·exact .inl h1
   ·exact jG e r hr
  ·cases x with
   |op i fp wr lo hi=>
    simp only at e;rw[Bool.and_eq_true,iW]at e;rcases List.mem_cons.1 hr with rfl|hr
    ·exact .inr λx hx k hk=>nI (e.1 k (hx.1 k hk))
    ·exact jG e.2 r hr
   |opw i fp ws lo hi=>
    simp only at e;rw[Bool.and_eq_true,iW]at e;rcases List.mem_cons.1 hr with rfl|hr
    ·exact .inr λx hx k hk=>nI (e.1 k (hx.1 k hk))
    ·exact jG e.2 r hr
   |call i d d'=>cases e
theorem aFp {ahead:Bits} {hid:List Nat} {rs:List Rec} {h d d':Heap} {x:Ev} {r:Rec} {v:CV} (hd:d=cU h hid) (h1:rC ahead rs=some hid) (h2:mR ahead d d' rs=true) (h3:∀k∈hid,d'.get k=none) (hr:r∈rs) (hx:jM r x):
  recIdx r∈ahead\/Apart x ⟨true,v,d,d'⟩:=by
 rcases tL h1 r hr with h|g1
 ·exact .inl h
 ·rcases jG h2 _ hr with h|g3
  ·exact .inl h
  ·right
   have dn:∀k,k∈hid->d.get k=none:=by
    intro k hk;rw[hd,gV,if_pos hk]
   refine⟨λk hk=>dn k (g1 x hx k hk),λk hk=> ?_,λk hk hk2=> ?_⟩
   ·rcases Classical.em (x.d.get k=none)with h|h
    ·exact h
    ·exact absurd (g3 x hx k h).symm hk
   ·have:=g1 x hx k hk
    exact hk2 ((h3 k this).trans (dn k this).symm)
def Tri (P:Program) (E:Env) (o:Oper) (tmps:Tm) (e:Ev):Prop:=
 ∀(ρ:Rho) (a:Act) (w:World),HR ρ e.d w->GR E ρ e.d->(∀x∈o.op.operands,VR ρ (aF E.globs tmps x) (a.eval x))->∀(next:Act->World->Prop) (Q:Exit->Act->World->Prop),
  (∀x ρ' w',J ρ e.d w ρ' e.d' w'->VR ρ' e.v x->next (a.put o.dst x) w')->∀ro:Option Nat,o.wpIn (FW ro) 0 P a w next Q
structure Fact (P:Program) (E:Env) (all:List Oper) (o:Oper) (tm:Tm) (hp:Heap) (e:Ev) (tm':Tm) (hp':Heap):Prop where
 guard:guardOn all tm o=some e.on
 tri:e.on=true->Tri P E o tm e
 off:e.on=false->e.v= .tup []/\e.Silent/\e.d'.next=e.d.next
 next:e.d.next=hp.next
 next':hp'.next=e.d'.next
 le:hp.next<=hp'.next
 sub:∀k b,e.d.get k=some b->hp.get k=some b
 get:∀k,(e.T k->hp'.get k=e.d'.get k)/\(¬e.T k->hp'.get k=hp.get k)
 tmps:tm'=putTmp tm o.dst e.v
def eT (i:Nat) (ev0:Nat->Ev) (recs:List Rec):Prop:=∀j,j<i->(ev0 j).Silent\/∃r∈recs,recIdx r=j/\jM r (ev0 j)
def dS (P:Program) (E:Env) (bs:List Bits) (all:List Oper) (i:Nat) (ev0:Nat->Ev) (tmps:Tm) (h:Heap) (r:R):Prop:=
 ∃(ev:Nat->Ev) (tm:Nat->Tm) (hp:Nat->Heap),(∀j,j<i->ev j=ev0 j)/\tm i=tmps/\hp i=h/\r= .code .normal (tm all.length) (hp all.length)/\
  ∀j o,i<=j->all[j]? =some o->Fact P E all o (tm j) (hp j) (ev j) (tm (j+1)) (hp (j+1))/\∀j',j'<j->j'∈(bs[j]?).getD Bits.nil\/Apart (ev j') (ev j)
theorem oP {bs:List Bits} {all:List Oper} {i:Nat} {ev0:Nat->Ev} {tmps tmps':Tm} {h h':Heap} {r:R} {o:Oper} {e:Ev} (ho:all[i]? =some o)
  (hf:Fact P E all o tmps h e tmps' h') (hp:∀j',j'<i->j'∈(bs[i]?).getD Bits.nil\/Apart (ev0 j') e)
  (ih:dS P E bs all (i+1) (λj=>if j=i then e else ev0 j) tmps' h' r):dS P E bs all i ev0 tmps h r:=by
 obtain⟨ev,tm,hp0,h1,h2,h3,h4,h5⟩:=ih;have hlt:i<all.length:=(List.getElem?_eq_some_iff.1 ho).1;have hi:ev i=e:=by rw[h1 i (Nat.lt_succ_self _)];simp
 have hj:∀j,j<i->ev j=ev0 j:=λj hj=>by
  rw[h1 j (by omega)];have:j≠i:=by omega
  simp[this]
 refine⟨ev,λj=>if j=i then tmps else tm j,λj=>if j=i then h else hp0 j,hj,by simp,by simp,?_,?_⟩
 ·have hne:all.length≠i:=by omega
  simp only[hne,if_false];exact h4
 ·intro j oj hij hoj
  by_cases e0:j=i
  ·subst e0
   rw[ho]at hoj;cases hoj;have e1:j+1≠j:=by omega
   refine⟨?_,λj' hj'=> ?_⟩
   ·simp only[if_true,e1,if_false,hi,h2,h3]
    exact hf
   ·rw[hi,hj j' hj']
    exact hp j' hj'
  ·have e1:j+1≠i:=by omega
   have:=h5 j oj (by omega) hoj;simp only[e0,e1,if_false];exact this
theorem xX {i:Nat} {ev0:Nat->Ev} {recs:List Rec} {e:Ev} {r:Rec} (hr:eT i ev0 recs) (hi:recIdx r=i) (h:jM r e):eT (i+1) (λj=>if j=i then e else ev0 j) (r::recs):=by
 intro j hj;by_cases e0:j=i
 ·subst e0
  exact .inr ⟨r,by simp,hi,by simpa using h⟩
 ·simp only[e0,if_false]
  rcases hr j (by omega)with h1|⟨r',h1,h2,h3⟩
  ·exact .inl h1
  ·exact .inr ⟨r',List.mem_cons_of_mem _ h1,h2,h3⟩
theorem tD {i:Nat} {ev0:Nat->Ev} {recs:List Rec} {e:Ev} (hr:eT i ev0 recs) (h:e.Silent):eT (i+1) (λj=>if j=i then e else ev0 j) recs:=by
 intro j hj;by_cases e0:j=i
 ·subst e0
  exact .inl (by simpa using h)
 ·simp only[e0,if_false]
  exact hr j (by omega)
theorem zG (n:Nat) (on:Bool) (v:CV):(⟨on,v,⟨.leaf,n,none⟩,⟨.leaf,n,none⟩⟩:Ev).Silent:=λk=>⟨Tree.get_leaf k,Tree.get_leaf k⟩
theorem tG {bs:List Bits} {all r:List Oper} {i:Nat} {recs:List Rec} {ev0:Nat->Ev} {tmps:Tm} {h d':Heap} {o:Oper} {v:CV} {ws:List Nat} {run0:qA} (ho:all[i]? =some o) (hg:guardOn all tmps o=some true)
  (hs:run0 (.draw bs all r (i+1) recs) (putTmp tmps o.dst v) h≠ .stop) (hrec:eT i ev0 recs) (hnx:∀j,j<i->(ev0 j).d'.next<=h.next)
  (htouch:Touch ws (only h []) d') (hws:∀k∈ws,k∈([]:List Nat)) (hdn:d'.next=h.next) (htri:Tri P E o tmps ⟨true,v,only h [],d'⟩)
  (ih:∀(e:Ev) recs' tmps' h',run0 (.draw bs all r (i+1) recs') tmps' h'≠ .stop->eT (i+1) (λj=>if j=i then e else ev0 j) recs'->(∀j,j<i+1->(if j=i then e else ev0 j).d'.next<=h'.next)->
   dS P E bs all (i+1) (λj=>if j=i then e else ev0 j) tmps' h' (run0 (.draw bs all r (i+1) recs') tmps' h')):
  dS P E bs all i ev0 tmps h (run0 (.draw bs all r (i+1) recs) (putTmp tmps o.dst v) h):=by
 have hsil:(⟨true,v,only h [],d'⟩:Ev).Silent:=by
  intro k;have h1:(only h []).get k=none:=by rw[cC];simp
  refine⟨h1,?_⟩;show d'.get k=none;rw[htouch.same k (λhk=>by cases hws k hk) (by rw[aT];omega),h1]
 refine oP (e:=⟨true,v,only h [],d'⟩) ho ⟨hg,λ_=>htri,(λe=>by cases e),aT _ _,hdn.symm,Nat.le_refl _,λk b hb=> ?_,λk=>⟨λhT=>absurd ((hsil k).2.trans (hsil k).1.symm) hT,λ_=>rfl⟩,rfl⟩ (λj' _=> .inr (pI hsil)) ?_
 ·rw[(hsil k).1]at hb;cases hb
 ·refine ih _ _ _ _ hs (tD hrec hsil) λj hj=> ?_
  by_cases e0:j=i
  ·rw[if_pos e0];show d'.next<=h.next;omega
  ·rw[if_neg e0];exact hnx j (by omega)
theorem yE {bs:List Bits} {all r:List Oper} {i:Nat} {recs:List Rec} {ev0:Nat->Ev} {tmps:Tm} {h d':Heap} {o:Oper} {v:CV} {fp ws:List Nat} {rec:Rec} {run0:qA} (ho:all[i]? =some o) (hg:guardOn all tmps o=some true)
  (hs:run0 (.draw bs all r (i+1) (rec::recs)) (putTmp tmps o.dst v) (cB h d' (fp++bC h.next (d'.next-h.next)))≠ .stop) (hrec:eT i ev0 recs) (hnx:∀j,j<i->(ev0 j).d'.next<=h.next)
  (htouch:Touch ws (only h fp) d') (hws:∀k∈ws,k∈fp) (hidx:recIdx rec=i) (hro:jM rec ⟨true,v,only h fp,d'⟩) (hok:∀r∈recs,recIdx r∈((dO bs i).getD Bits.nil)\/∀x,jM r x->x.d'.next<=h.next->Apart x ⟨true,v,only h fp,d'⟩) (htri:Tri P E o tmps ⟨true,v,only h fp,d'⟩)
  (ih:∀(e:Ev) recs' tmps' h',run0 (.draw bs all r (i+1) recs') tmps' h'≠ .stop->eT (i+1) (λj=>if j=i then e else ev0 j) recs'->(∀j,j<i+1->(if j=i then e else ev0 j).d'.next<=h'.next)->
   dS P E bs all (i+1) (λj=>if j=i then e else ev0 j) tmps' h' (run0 (.draw bs all r (i+1) recs') tmps' h')):
  dS P E bs all i ev0 tmps h (run0 (.draw bs all r (i+1) (rec::recs)) (putTmp tmps o.dst v) (cB h d' (fp++bC h.next (d'.next-h.next)))):=by
 have hnext:h.next<=d'.next:=by have:=htouch.next;rw[aT]at this;exact this
 have hbn:(cB h d' (fp++bC h.next (d'.next-h.next))).next=d'.next:=bQ _ _ _;refine oP (e:=⟨true,v,only h fp,d'⟩) ho ⟨hg,λ_=>htri,(λe=>by cases e),aT _ _,hbn,by rw[hbn];exact hnext,λk b hb=> ?_,λk=>⟨λhT=> ?_,λhT=> ?_⟩,rfl⟩ (λj' hj'=> ?_) ?_
 ·have hb:(only h fp).get k=some b:=hb
  rw[cC]at hb;split at hb
  ·exact hb
  ·cases hb
 ·rw[bL,if_pos]
  rw[List.mem_append,fQ];rcases Classical.em (h.next<=k/\k<d'.next)with h1|h1
  ·exact .inr (by omega)
  ·exact .inl (hws k (Classical.not_not.1 λhn=>hT (htouch.same k hn (by rw[aT];exact h1))))
 ·have hT:d'.get k=(only h fp).get k:=Classical.not_not.1 hT
  rw[bL];split
  ·rename_i hin
   rw[hT,cC];split
   ·rfl
   ·rename_i hnf
    rw[List.mem_append,fQ]at hin;rcases hin with hin|hin
    ·exact absurd hin hnf
    ·have h1:d'.get k≠none:=htouch.made k (by rw[aT];omega) (by omega)
     have h2:(only h fp).get k=none:=by rw[cC,if_neg hnf]
     exact absurd (hT.trans h2) h1
  ·rfl
 ·rcases hrec j' hj' with h1|⟨r',h1,h2,h3⟩
  ·exact .inr (pJ h1)
  ·rcases hok r' h1 with h4|h4
   ·left;rw[<-cQ,<-h2];exact h4
   ·exact .inr (h4 _ h3 (hnx j' hj'))
 ·refine ih _ _ _ _ hs (xX hrec hidx hro) λj hj=> ?_
  rw[hbn];by_cases e0:j=i
  ·rw[if_pos e0];exact Nat.le_refl _
  ·rw[if_neg e0]
   exact Nat.le_trans (hnx j (by omega)) hnext
theorem xN {fp ws:List Nat} {h d':Heap} {v:CV} (t:Touch ws (only h fp) d'):(∀k,(⟨true,v,only h fp,d'⟩:Ev).d.get k≠none->k∈fp)/\∀k,(⟨true,v,only h fp,d'⟩:Ev).T k->k∈ws\/(h.next<=k/\k<d'.next):=
 ⟨λk hk=>Classical.byContradiction λh1=>hk (show(only h fp).get k=none by rw[cC,if_neg h1]),λk hk=>by
  rcases Classical.em (h.next<=k/\k<d'.next)with h1|h1
  ·exact .inr h1
  ·exact .inl (Classical.not_not.1 λhn=>hk (t.same k hn (by rw[aT];exact h1)))⟩
theorem vR {bs:List Bits} {all r:List Oper} {i:Nat} {recs:List Rec} {ev0:Nat->Ev} {tmps:Tm} {h:Heap} {o:Oper} {fp:List Nat} {x:Option (CV×Heap)} {run0:qA} (ho:all[i]? =some o) (hg:guardOn all tmps o=some true)
  (hs:tQ run0 bs all r i recs o.dst tmps h fp (dT o.op) x≠ .stop) (hrec:eT i ev0 recs) (hnx:∀j,j<i->(ev0 j).d'.next<=h.next)
  (ht:∀p,x=some p->Touch (match dT o.op with|true=>fp|false=>[]) (only h fp) p.2) (htri:∀p,x=some p->Tri P E o tmps ⟨true,p.1,only h fp,p.2⟩)
  (ih:∀(e:Ev) recs' tmps' h',run0 (.draw bs all r (i+1) recs') tmps' h'≠ .stop->eT (i+1) (λj=>if j=i then e else ev0 j) recs'->(∀j,j<i+1->(if j=i then e else ev0 j).d'.next<=h'.next)->
   dS P E bs all (i+1) (λj=>if j=i then e else ev0 j) tmps' h' (run0 (.draw bs all r (i+1) recs') tmps' h')):
  dS P E bs all i ev0 tmps h (tQ run0 bs all r i recs o.dst tmps h fp (dT o.op) x):=by
 unfold tQ at hs ⊢;cases x with
 |none=>exact absurd rfl hs
 |some p=>
  obtain⟨v,d'⟩:=p;have htouch:=ht _ rfl;have htri:=htri _ rfl;simp only at hs ⊢ htouch htri;have hnext:h.next<=d'.next:=by have:=htouch.next;rw[aT]at this;exact this
  cases hq:jH fp&&Nat.beq d'.next h.next with
  |true=>
   rw[hq]at hs;simp only at hs ⊢;rw[Bool.and_eq_true]at hq;have hfp:fp=[]:=by cases fp with|nil=>rfl|cons _ _=>simp[jH]at hq
   subst hfp;exact tG ho hg hs hrec hnx htouch (λk hk=>by cases hw:dT o.op<;>rw[hw]at hk<;>exact hk) (Nat.eq_of_beq_eq_true hq.2) htri ih
  |false=>
   rw[hq]at hs;simp only at hs ⊢;cases hok:aN ((dO bs i).getD Bits.nil) fp (dT o.op) (bC h.next (d'.next-h.next)) recs with
   |false=>rw[hok]at hs;exact absurd rfl hs
   |true=>
    rw[hok]at hs;simp only at hs ⊢;obtain⟨t1,t2⟩:=xN (v:=v) htouch
    have hro:jM (.op i fp (dT o.op) h.next d'.next) ⟨true,v,only h fp,d'⟩:=⟨t1,λk hk=>(t2 k hk).imp (λw=>by
     cases hw:dT o.op with
     |true=>rw[hw]at w;exact⟨rfl,w⟩
     |false=>rw[hw]at w;cases w) id,aT _ _,rfl⟩
    exact yE (ws:=match dT o.op with|true=>fp|false=>[]) ho hg hs hrec hnx htouch (λk hk=>by
     cases hw:dT o.op with
     |true=>rw[hw]at hk;exact hk
     |false=>rw[hw]at hk;cases hk) rfl hro (λr hr=>(eV hok r hr).imp id λh4 x hx hle=>aAa hx hro hnext hle h4) htri ih
theorem aCf {bs:List Bits} {all r:List Oper} {i:Nat} {recs:List Rec} {ev0:Nat->Ev} {tmps:Tm} {h:Heap} {o:Oper} {fp ws:List Nat} {x:Option (CV×Heap)} {run0:qA} (ho:all[i]? =some o) (hg:guardOn all tmps o=some true)
  (hs:wN run0 bs all r i recs o.dst tmps h fp ws x≠ .stop) (hrec:eT i ev0 recs) (hnx:∀j,j<i->(ev0 j).d'.next<=h.next)
  (hws:∀k∈ws,k∈fp) (ht:∀p,x=some p->Touch ws (only h fp) p.2) (htri:∀p,x=some p->Tri P E o tmps ⟨true,p.1,only h fp,p.2⟩)
  (ih:∀(e:Ev) recs' tmps' h',run0 (.draw bs all r (i+1) recs') tmps' h'≠ .stop->eT (i+1) (λj=>if j=i then e else ev0 j) recs'->(∀j,j<i+1->(if j=i then e else ev0 j).d'.next<=h'.next)->
   dS P E bs all (i+1) (λj=>if j=i then e else ev0 j) tmps' h' (run0 (.draw bs all r (i+1) recs') tmps' h')):
  dS P E bs all i ev0 tmps h (wN run0 bs all r i recs o.dst tmps h fp ws x):=by
 unfold wN at hs ⊢;cases x with
 |none=>exact absurd rfl hs
 |some p=>
  obtain⟨v,d'⟩:=p;have htouch:=ht _ rfl;have htri:=htri _ rfl;simp only at hs ⊢ htouch htri;have hnext:h.next<=d'.next:=by have:=htouch.next;rw[aT]at this;exact this
  cases hq:jH fp&&Nat.beq d'.next h.next with
  |true=>
   rw[hq]at hs;simp only at hs ⊢;rw[Bool.and_eq_true]at hq;have hfp:fp=[]:=by cases fp with|nil=>rfl|cons _ _=>simp[jH]at hq
   subst hfp;exact tG ho hg hs hrec hnx htouch hws (Nat.eq_of_beq_eq_true hq.2) htri ih
  |false=>
   rw[hq]at hs;simp only at hs ⊢;cases hok:aN ((dO bs i).getD Bits.nil) fp false (bC h.next (d'.next-h.next)) recs&&aN ((dO bs i).getD Bits.nil) ws true (bC h.next (d'.next-h.next)) recs with
   |false=>rw[hok]at hs;exact absurd rfl hs
   |true=>
    rw[hok]at hs;simp only at hs ⊢;rw[Bool.and_eq_true]at hok;obtain⟨t1,t2⟩:=xN (v:=v) htouch;have hro:jM (.opw i fp ws h.next d'.next) ⟨true,v,only h fp,d'⟩:=⟨t1,t2,aT _ _,rfl,hws⟩;exact yE ho hg hs hrec hnx htouch hws rfl hro (λr hr=>(eV hok.1 r hr).elim .inl λh4=>(eV hok.2 r hr).imp id λh5 x hx hle=>xG hx hro hnext hle h4 h5) htri ih
end
end Go.CM

noncomputable section
namespace Go.CM
section
variable {P:Program} {E:Env}
theorem aDw {o:Oper} {tmps:Tm} {e:Ev} (h:∀(ρ:Rho) (a:Act) (w:World),HR ρ e.d w->(∀x∈o.op.operands,VR ρ (aF E.globs tmps x) (a.eval x))->OpOk P o a ρ e.d w e.v e.d'):Tri P E o tmps e:=by
 intro ρ a w hr _ hop next Q hn ro;obtain⟨x,w1,ρ1,g1,g2,g3⟩:=h ρ a w hr hop;exact mC g1 (hn x ρ1 w1 g2 g3)
theorem aFo {bs:List Bits} {all r:List Oper} {i:Nat} {recs:List Rec} {ev0:Nat->Ev} {tmps:Tm} {h:Heap} {o:Oper} {hid:List Nat} {x:R} {run0:qA} (ho:all[i]? =some o) (hg:guardOn all tmps o=some true)
  (hs:aDh run0 bs all r i recs o.dst tmps h (cU h hid) hid x≠ .stop) (hrec:eT i ev0 recs) (hnx:∀j,j<i->(ev0 j).d'.next<=h.next) (hhid:rC ((dO bs i).getD Bits.nil) recs=some hid)
  (htri:∀v d',x= .val v d'->Tri P E o tmps ⟨true,v,cU h hid,d'⟩)
  (ih:∀(e:Ev) recs' tmps' h',run0 (.draw bs all r (i+1) recs') tmps' h'≠ .stop->eT (i+1) (λj=>if j=i then e else ev0 j) recs'->(∀j,j<i+1->(if j=i then e else ev0 j).d'.next<=h'.next)->
   dS P E bs all (i+1) (λj=>if j=i then e else ev0 j) tmps' h' (run0 (.draw bs all r (i+1) recs') tmps' h')):
  dS P E bs all i ev0 tmps h (aDh run0 bs all r i recs o.dst tmps h (cU h hid) hid x):=by
 unfold aDh at hs ⊢;cases x with
 |val v d'=>
  have htri:=htri v d' rfl;simp only at hs ⊢;cases hq:Nat.ble h.next d'.next&&(mR ((dO bs i).getD Bits.nil) (cU h hid) d' recs&&fK hid λk=>uH (d'.get k))with
  |false=>rw[hq]at hs;exact absurd rfl hs
  |true=>
   rw[hq]at hs;simp only at hs ⊢;rw[Bool.and_eq_true,Bool.and_eq_true,iW]at hq;obtain⟨q1,q2,q3⟩:=hq;have hle:=Nat.le_of_ble_eq_true q1;have hno:∀k∈hid,d'.get k=none:=λk hk=>(mV _).1 (q3 k hk);have hbn:(cB d' ⟨h.t,d'.next,none⟩ hid).next=d'.next:=by rw[bQ]
   have hbg:∀k,(cB d' ⟨h.t,d'.next,none⟩ hid).get k=if k∈hid then h.get k else d'.get k:=λk=>bL _ _ _ _
   refine oP (e:=⟨true,v,cU h hid,d'⟩) ho ⟨hg,λ_=>htri,(λe=>by cases e),qB _ _,hbn,by rw[hbn];exact hle,λk b hb=> ?_,λk=>⟨λhT=> ?_,λhT=> ?_⟩,rfl⟩ (λj' hj'=> ?_) ?_
   ·have hb:(cU h hid).get k=some b:=hb
    rw[gV]at hb;split at hb
    ·cases hb
    ·exact hb
   ·rw[hbg]
    split
    ·rename_i hk
     have h1:(cU h hid).get k=none:=by rw[gV,if_pos hk]
     exact absurd ((hno k hk).trans h1.symm) hT
    ·rfl
   ·rw[hbg]
    split
    ·rfl
    ·rename_i hk
     have hT:d'.get k=(cU h hid).get k:=Classical.not_not.1 hT;rw[hT,gV,if_neg hk]
   ·rcases hrec j' hj' with h1|⟨r',h1,h2,h3⟩
    ·exact .inr (pJ h1)
    ·rcases aFp (v:=v) rfl hhid q2 hno h1 h3 with h4|h4
     ·left;rw[<-cQ,<-h2];exact h4
     ·right;exact h4
   ·refine ih _ _ _ _ hs (xX (r:= .call i (cU h hid) d') hrec rfl ⟨rfl,rfl⟩) λj hj=> ?_
    rw[hbn];by_cases e0:j=i
    ·rw[if_pos e0];exact Nat.le_refl _
    ·rw[if_neg e0]
     exact Nat.le_trans (hnx j (by omega)) hle
 |pan v d'=>exact absurd rfl hs
 |code _ _ _=>exact absurd rfl hs
 |stop=>exact absurd rfl hs
theorem wM (W:EnvW P E) {bs:List Bits} {all:List Oper}:∀(m:Nat),(∀m',m'<m->Snd P E m')->∀(rest:List Oper) (i:Nat) (recs:List Rec) (tmps:Tm) (h:Heap) (ev0:Nat->Ev),
  run E m (.draw bs all rest i recs) tmps h≠ .stop->all.drop i=rest->eT i ev0 recs->(∀j,j<i->(ev0 j).d'.next<=h.next)->
  dS P E bs all i ev0 tmps h (run E m (.draw bs all rest i recs) tmps h)
 |0,_,_,_,_,_,_,_,hs,_,_,_=>absurd rfl hs
 |m+1,S,rest,i,recs,tmps,h,ev0,hs,hk,hrec,hnx=>by
  have e:run E (m+1) (.draw bs all rest i recs) tmps h=aKg E (run E m) bs all rest i recs tmps h:=rfl;rw[e]at hs ⊢;unfold aKg at hs ⊢;cases rest with
  |nil=>
   simp only
   have hlen:all.length<=i:=by
    have:=congrArg List.length hk;simp at this;omega
   refine⟨ev0,λ_=>tmps,λ_=>h,λ_ _=>rfl,rfl,rfl,rfl,λj o hij ho=> ?_⟩;have:=(List.getElem?_eq_some_iff.1 ho).1;omega
  |cons o r=>
   obtain⟨ho,hk2⟩:=yT hk
   have ih:∀(e:Ev) recs' tmps' h',run E m (.draw bs all r (i+1) recs') tmps' h'≠ .stop->eT (i+1) (λj=>if j=i then e else ev0 j) recs'->(∀j,j<i+1->(if j=i then e else ev0 j).d'.next<=h'.next)->
     dS P E bs all (i+1) (λj=>if j=i then e else ev0 j) tmps' h' (run E m (.draw bs all r (i+1) recs') tmps' h'):=
    λe recs' tmps' h' h1 h2 h3=>wM W m (λm' hm'=>S m' (by omega)) r (i+1) recs' tmps' h' _ h1 hk2 h2 h3
   simp only at hs ⊢;cases hg:guardOn all tmps o with
   |none=>rw[hg]at hs;exact absurd rfl hs
   |some b=>
    rw[hg]at hs;cases b with
    |false=>
     simp only at hs ⊢;have hsil:=zG h.next false (.tup []);refine oP (h':=h) (e:=⟨false,.tup [],⟨.leaf,h.next,none⟩,⟨.leaf,h.next,none⟩⟩) ho ⟨hg,(λe=>by cases e),λ_=>⟨rfl,hsil,rfl⟩,rfl,rfl,Nat.le_refl _,λk b hb=> ?_,λk=>⟨λhT=>absurd rfl hT,λ_=>rfl⟩,rfl⟩ (λj' _=> .inr (pI hsil)) ?_
     ·rw[(hsil k).1]at hb;cases hb
     ·refine ih _ _ _ _ hs (tD hrec hsil) λj hj=> ?_
      by_cases e0:j=i
      ·rw[if_pos e0];exact Nat.le_refl _
      ·rw[if_neg e0];exact hnx j (by omega)
    |true=>
     simp only at hs ⊢
     have plain:∀(hs:tQ (run E m) bs all r i recs o.dst tmps h (iS o.op (aF E.globs tmps)) (dT o.op) (oR E o.op (aF E.globs tmps) (only h (iS o.op (aF E.globs tmps))))≠ .stop),
       dS P E bs all i ev0 tmps h (tQ (run E m) bs all r i recs o.dst tmps h (iS o.op (aF E.globs tmps)) (dT o.op) (oR E o.op (aF E.globs tmps) (only h (iS o.op (aF E.globs tmps))))):=λhs=>
      vR ho hg hs hrec hnx (λp hp=>aCa (v:=p.1) (h':=p.2) hp) (λp hp=>aDw λρ a w hr hop=>aBx W.ok hr (v:=p.1) (h':=p.2) hp hop) ih
     unfold kV at hs ⊢;cases hop:o.op with
     |call c=>
      rw[hop]at hs;simp only at hs ⊢;cases hbi:bF c.callee with
      |some b=>
       rw[hbi]at hs;simp only at hs ⊢;have hbc:=fR hbi;obtain⟨callee,args,tys⟩:=c;simp only at hbc;subst hbc;cases hap:aCs b with
       |false=>
        rw[hap]at hs;simp only at hs ⊢
        have:=vR (P:=P) (E:=E) (fp:=iS o.op (aF E.globs tmps)) (x:=aW E (only h (iS o.op (aF E.globs tmps))) b tys.toList (args.toList.map (aF E.globs tmps))) (run0:=run E m) (bs:=bs) (r:=r) ho hg (by rw[hop];exact hs) hrec hnx
         (λp hp=>by rw[hop]at hp ⊢;exact xI (v:=p.1) (h':=p.2) hp) (λp hp=>aDw λρ a w hr hopr=>jT W.ok hr hop (v:=p.1) (h':=p.2) hp λx hx=>hopr x (by rw[hop];simp[Op.operands,Call.operands];simpa using hx)) ih
        rw[hop]at this;exact this
       |true=>
        rw[hap]at hs;simp only at hs ⊢;have hb:=wB hap;subst hb
        have:=aCf (P:=P) (E:=E) (fp:=iS o.op (aF E.globs tmps)) (ws:=aMz (args.toList.map (aF E.globs tmps))) (x:=aW E (only h (iS o.op (aF E.globs tmps))) .append tys.toList (args.toList.map (aF E.globs tmps))) (run0:=run E m) (bs:=bs) (r:=r) ho hg (by rw[hop];exact hs) hrec hnx
         (λk hk=>by
          have:=aMy _ k hk;rw[hop];simpa[iS,List.map_map,Function.comp_def]using this)
         (λp hp=>aJn (v:=p.1) (h':=p.2) hp) (λp hp=>aDw λρ a w hr hopr=>jT W.ok hr hop (v:=p.1) (h':=p.2) hp λx hx=>hopr x (by rw[hop];simp[Op.operands,Call.operands];simpa using hx)) ih
        rw[hop]at this;exact this
      |none=>
       rw[hbi]at hs;simp only at hs ⊢;unfold aUr at hs ⊢;cases hhid:rC ((dO bs i).getD Bits.nil) recs with
       |none=>rw[hhid]at hs;exact absurd rfl hs
       |some hid=>
        rw[hhid]at hs;simp only at hs ⊢;refine aFo ho hg hs hrec hnx hhid (λv d' hx=> ?_) ih;intro ρ a w hr g hopr next Q hn ro;refine lR W (S m (Nat.lt_succ_self m)) hop hr g hopr hx (by simp) (λv' h' x ρ' w' e0 j hv=> ?_) (λv' h' x ρ' w' e0 j hv=>by cases e0) ro;cases e0;exact hn x ρ' w' j hv
     |_=>
      rw[hop]at hs;simp only at hs ⊢;have:=plain (by rw[hop];exact hs);rw[hop]at this;exact this
end
end Go.CM

noncomputable section
namespace Go.CM
section
variable {α:Type}
open Classical in
noncomputable def last (S:Nat->Bool) (T:Nat->Prop) (v:Nat->α) (b:α):Nat->α
 |0=>b
 |n+1=>if S n=true/\T n then v n else last S T v b n
variable {S S':Nat->Bool} {T:Nat->Prop} {v:Nat->α} {b:α}
theorem eI:∀{n:Nat},(∀i,i<n->T i->S i=S' i)->last S T v b n=last S' T v b n
 |0,_=>rfl
 |n+1,h=>by
  have ih:=eI (n:=n) λi hi ht=>h i (by omega) ht;simp only[last];by_cases ht:T n
  ·rw[h n (Nat.lt_succ_self _) ht,ih]
  ·rw[if_neg (λhh=>ht hh.2),if_neg (λhh=>ht hh.2),ih]
theorem aAf {i:Nat} (hs:S i=true) (ht:T i):∀{n:Nat},i<n->(∀j,i<j->j<n->S j=true->¬T j)->last S T v b n=v i
 |0,hi,_=>by omega
 |n+1,hi,hl=>by
  simp only[last];by_cases e:i=n
  ·subst e;rw[if_pos ⟨hs,ht⟩]
  ·rw[if_neg (λhh=>hl n (by omega) (Nat.lt_succ_self _) hh.1 hh.2)]
   exact aAf hs ht (by omega) λj h1 h2=>hl j h1 (by omega)
theorem lK {X:Nat->α} (h0:X 0=b) {N:Nat} (h1:∀j,j<N->(T j->X (j+1)=v j)/\(¬T j->X (j+1)=X j)):∀{n i:Nat},n<=N->i<=n->last (λj=>decide (j<i)) T v b n=X i
 |0,i,_,hi=>by
  have:i=0:=by omega
  subst this;exact h0.symm
 |n+1,i,hn,hi=>by
  simp only[last];by_cases e:i=n+1
  ·subst e
   have e2:last (λj=>decide (j<n+1)) T v b n=X n:=by
    rw[eI (S':=λj=>decide (j<n))]
    ·exact lK h0 h1 (by omega) (Nat.le_refl _)
    ·intro j hj _
     simp only[decide_eq_decide];omega
   rw[e2];by_cases ht:T n
   ·rw[if_pos ⟨by simp,ht⟩,(h1 n (by omega)).1 ht]
   ·rw[if_neg (λhh=>ht hh.2),(h1 n (by omega)).2 ht]
  ·rw[if_neg (λhh=>by have:=hh.1;simp only[decide_eq_true_eq]at this;omega)]
   exact lK h0 h1 (by omega) (by omega)
theorem sI:∀{n:Nat},(∀i,i<n->S i=false)->last S T v b n=b
 |0,_=>rfl
 |n+1,h=>by
  simp only[last];rw[if_neg (λhh=>by rw[h n (Nat.lt_succ_self _)]at hh;cases hh.1)];exact sI λi hi=>h i (by omega)
theorem sH {p:α->Prop} (hb:p b):∀{n:Nat},(∀i,i<n->S i=true->T i->p (v i))->p (last S T v b n)
 |0,_=>hb
 |n+1,h=>by
  simp only[last];split
  ·rename_i hh;exact h n (Nat.lt_succ_self _) hh.1 hh.2
  ·exact sH hb λi hi=>h i (by omega)
end
theorem aQu (j a:Nat):Nat.beq (Nat.land (Nat.shiftRight a j) 1) 1=Nat.testBit a j:=by
 have h1:Nat.land (Nat.shiftRight a j) 1=(a>>>j)%2:=Nat.and_one_is_mod _;rw[h1,Nat.testBit_eq_decide_div_mod_eq,Nat.shiftRight_eq_div_pow,Bool.eq_iff_iff,Nat.beq_eq,decide_eq_true_iff]
theorem aTt (j a b:Nat):Nat.testBit (Nat.lor a b) j=true↔Nat.testBit a j=true\/Nat.testBit b j=true:=by
 show Nat.testBit (a ||| b) j=true↔_;rw[Nat.testBit_or,Bool.or_eq_true]
theorem aPq (j k:Nat):Nat.testBit (Nat.shiftLeft 1 k) j=true↔j=k:=by
 show Nat.testBit (1<<<k) j=true↔_;rw[Nat.testBit_shiftLeft];by_cases h:k<=j
 ·simp only[h,decide_true,Bool.true_and,Nat.testBit_one_eq_true_iff_self_eq_zero]
  omega
 ·simp only[h,decide_false,Bool.false_and]
  constructor
  ·intro e;cases e
  ·intro e;omega
theorem nL (j:Nat) (a:Bits):j∈a↔@Nat.testBit a j=true:=
 (Bool.eq_iff_iff.1 (aQu j a))
theorem aGu (j:Nat):¬j∈Bits.nil:=λh=>by
 have h:Nat.testBit 0 j=true:=(nL j Bits.nil).1 h;rw[Nat.zero_testBit]at h;cases h
theorem aUj (j:Nat) (a b:Bits):j∈aFq a b↔j∈a\/j∈b:=by
 rw[nL,nL,nL];exact aTt j a b
theorem aQd (j k:Nat):j∈aHh k↔j=k:=by
 rw[nL];exact aPq j k
theorem tJ (bs:List Bits) (j:Nat):∀(es:List Edge),j∈iD bs es↔∃e∈es,Region.binds .any e=true/\(j=e.on\/j∈(bs[e.on]?).getD Bits.nil)
 |[]=>by
  constructor
  ·intro h;exact absurd h (aGu j)
  ·rintro⟨e,h,_⟩;cases h
 |e::r=>by
  unfold iD;have ih:=tJ bs j r;cases hb:Region.binds .any e with
  |true=>
   simp only[aUj,aQd,ih,cQ,List.mem_cons];constructor
   ·rintro(h|h|⟨e',h1,h2⟩)
    ·exact⟨e,.inl rfl,hb,.inl h⟩
    ·exact⟨e,.inl rfl,hb,.inr h⟩
    ·exact⟨e',.inr h1,h2⟩
   ·rintro⟨e',rfl|h1,h2,h3⟩
    ·exact h3.imp id .inl
    ·exact .inr (.inr ⟨e',h1,h2,h3⟩)
  |false=>
   simp only[ih,List.mem_cons];constructor
   ·rintro⟨e',h1,h2⟩;exact⟨e',.inr h1,h2⟩
   ·rintro⟨e',rfl|h1,h2,h3⟩
    ·rw[hb]at h2;cases h2
    ·exact⟨e',h1,h2,h3⟩
theorem tW:∀(l:List Oper) (pre:List Bits),∃tl,aheads l pre=pre++tl/\tl.length=l.length/\∀i o,l[i]? =some o->(pre++tl)[pre.length+i]? =some (iD ((pre++tl).take (pre.length+i)) o.after.toList)
 |[],pre=>⟨[],by simp[aheads],rfl,λi o h=>by simp at h⟩
 |o::r,pre=>by
  obtain⟨tl,h1,h2,h3⟩:=tW r (pre++[iD pre o.after.toList]);refine⟨iD pre o.after.toList::tl,?_,by simp[h2],λi o' hi=> ?_⟩
  ·show aheads r (pre++[iD pre o.after.toList])=_
   rw[h1];simp
  ·cases i with
   |zero=>
    simp only[List.getElem?_cons_zero,Option.some.injEq]at hi;subst hi;simp
   |succ i=>
    have:=h3 i o' (by simpa using hi);simp only[List.length_append,List.length_singleton,List.append_assoc,List.singleton_append]at this;rw[show pre.length+(i+1)=pre.length+1+i by omega];exact this
theorem mZ:∀(l:List Oper) (i:Nat),iG i l=true->∀k o,l[k]? =some o->∀e∈o.after,Region.binds .any e=true->e.on<i+k
 |[],_,_,k,o,h=>by simp at h
 |x::r,i,hb,k,o,h=>by
  simp only[iG,Bool.and_eq_true,List.all_eq_true]at hb;cases k with
  |zero=>
   simp only[List.getElem?_cons_zero,Option.some.injEq]at h;subst h;intro e he hbi;have:=hb.1 e (by simpa using he);rw[hbi]at this;have h1:Nat.ble (e.on+1) i=true:=this;have h2:=Nat.le_of_ble_eq_true h1;omega
  |succ k=>
   intro e he hbi;have:=mZ r (i+1) hb.2 k o (by simpa using h) e he hbi;omega
theorem oQ {all:List Oper} {ahead:Bits} {ly:List Nat} {y:Oper}:∀(l:List Oper) (j n:Nat),iJ all ahead ly y j n l=true->∀k x,k<n->l[k]? =some x->j+k∈ahead\/uJ (eA all x) ly x y=true
 |[],_,_,_,k,x,_,hx=>by simp at hx
 |_::_,_,0,_,k,x,hk,_=>by omega
 |z::r,j,n+1,h,k,x,hk,hx=>by
  unfold iJ at h
  have here:(j∈ahead\/uJ (eA all z) ly z y=true)/\iJ all ahead ly y (j+1) n r=true:=by
   split at h
   ·rename_i hm;exact⟨.inl hm,h⟩
   ·split at h
    ·rename_i hp;exact⟨.inr hp,h⟩
    ·cases h
  cases k with
  |zero=>
   simp only[List.getElem?_cons_zero,Option.some.injEq]at hx;subst hx;exact here.1
  |succ k=>
   have:=oQ r (j+1) n here.2 k x (by omega) (by simpa using hx);rwa[show j+1+k=j+(k+1) by omega]at this
theorem sU {all:List Oper} {bs:List Bits}:∀(l:List Oper) (i:Nat),zC all bs i l=true->∀k y,l[k]? =some y->iJ all ((bs[i+k]?).getD Bits.nil) (eA all y) y 0 (i+k) all=true
 |[],_,_,k,y,h=>by simp at h
 |x::r,i,h,k,y,hy=>by
  unfold zC at h;split at h
  ·rename_i h1
   cases k with
   |zero=>
    simp only[List.getElem?_cons_zero,Option.some.injEq]at hy;subst hy;rw[cQ]at h1;exact h1
   |succ k=>
    have:=sU r (i+1) h k y (by simpa using hy);rwa[show i+1+k=i+(k+1) by omega]at this
  ·cases h
theorem wQ {all:List Oper} {L:Nat->Bool} (hc:∀i o,all[i]? =some o->L i=true->∀e∈o.after,Region.binds .any e=true->L e.on=true):
  ∀(n i:Nat),i<n->∀o,all[i]? =some o->(∀e∈o.after,Region.binds .any e=true->L e.on=true)->∀j∈(((aheads all [])[i]?).getD Bits.nil),L j=true
 |0,i,hi,_,_,_,_,_=>by omega
 |n+1,i,hi,o,ho,hw,j,hj=>by
  obtain⟨tl,h1,h2,h3⟩:=tW all [];simp only[List.nil_append,List.length_nil,Nat.zero_add]at h1 h3;have h4:=h3 i o ho;rw[h1,h4,Option.getD_some,tJ]at hj;obtain⟨e,he,hb,hj⟩:=hj;have he:e∈o.after:=by simpa using he
  have hon:=hw e he hb;rcases hj with rfl|hj
  ·exact hon
  ·rw[List.getElem?_take]at hj
   split at hj
   ·rename_i hlt
    have hlen:e.on<all.length:=by
     have:=(List.getElem?_eq_some_iff.1 ho).1;omega
    refine wQ hc n e.on (by omega) all[e.on] (List.getElem?_eq_getElem hlen) (hc e.on _ (List.getElem?_eq_getElem hlen) hon) j ?_;rw[h1];exact hj
   ·exact absurd hj (aGu j)
theorem yC {d:Option Nat} {l:List Nat}:aCd d l=true↔∀t,d=some t->t∉l:=by
 cases d with
 |none=>simp[aCd]
 |some t=>
  simp only[aCd,Bool.not_eq_true',Option.some.injEq,forall_eq'];rw[<-lI];simp
theorem aIn {a b:Option Nat}:aCg a b=true↔∀t,a=some t->b≠some t:=by
 cases a with
 |none=>simp[aCg]
 |some d=>
  cases b with
  |none=>simp[aCg]
  |some e=>
   simp only[aCg,Bool.not_eq_true',Option.some.injEq,forall_eq',ne_eq];constructor
   ·intro h he
    subst he;rw[Nat.beq_refl]at h;cases h
   ·intro h
    cases hb:Nat.beq d e with
    |false=>rfl
    |true=>exact absurd (Nat.eq_of_beq_eq_true hb).symm h
theorem vT {t:Nat}:∀{l:List Operand},.tmp t∈l->t∈rV l
 |x::r,h=>by
  rcases List.mem_cons.1 h with rfl|h
  ·simp[rV]
  ·have:=vT h
   cases x<;>simp[rV,this]
theorem VR.down {ρ ρ':Rho} (s:Sub ρ ρ') {v:CV} {x:Value} (h:VR ρ v x):∀{y:Value},VR ρ' v y->VR ρ v y:=by
 induction h with
 |undef x=>intro y _;exact .undef y
 |bool b=>intro y h;cases h;exact .bool b
 |int k n=>intro y h;cases h;exact .int k n
 |str x=>
  intro y h;obtain⟨b,rfl,e⟩:=h.inv_str;rw[<-e];exact .str b
 |nilptr=>intro y h;cases h;exact .nilptr
 |ptr i o k d h=>
  intro y hy;obtain⟨k2,d2,h1,rfl⟩:=hy.inv_ptr;rw[(s _ _ h).1]at h1;cases h1;exact .ptr i o k d h
 |nilslice n c x c' h hx hn hm=>
  intro y hy;obtain⟨c2,rfl,h1,h2,h3,h4⟩:=hy.inv_nilslice;exact .nilslice n c x c2 h1 h2 h3 h4
 |slice i o n c x k d c' hi h hx hr hn hm=>
  intro y hy;obtain⟨k2,d2,c2,h1,rfl,h2,h3,h4,h5,h6⟩:=hy.inv_slice;rw[(s _ _ hi).1]at h1;cases h1;exact .slice i o n c x k d c2 hi h2 h3 (λe=>by rw[<-(s _ _ hi).2];exact h6 e) h4 h5
 |empty p c hm=>intro y hy;obtain⟨p2,c2,rfl,h2⟩:=hy.inv_empty;exact .empty p2 c2 h2
 |nilmap=>intro y h;cases h;exact .nilmap
 |map i k h=>
  intro y hy;obtain⟨k2,h1,rfl⟩:=hy.inv_map;rw[(s _ _ h).1]at h1;cases h1;exact .map i k h
 |fn f first caps a1 a2 hl1 hl2 hr1 hr2 ih1 ih2=>
  intro y hy;cases hy with
  |fn _ _ _ b1 b2 g1 g2 g3 g4=>exact .fn f first caps b1 b2 g1 g2 (λi hi=>ih1 i hi (g3 i hi)) (λi hi=>ih2 i hi (g4 i hi))
 |yield i l h=>
  intro y hy;cases hy with
  |yield _ l2 h2=>
   rw[(s _ _ h).1]at h2;cases h2;exact .yield i l h
 |nilFunc=>intro y h;cases h;exact .nilFunc
 |iface t v x h ih=>
  intro y hy;obtain⟨z,rfl,h1⟩:=hy.inv_iface;exact .iface t v z (ih h1)
 |nilIface=>intro y h;cases h;exact .nilIface
 |agg cs arr hl hr h1 ih=>
  intro y hy;cases hy with
  |agg _ b g1 g2 g3=>exact .agg cs b g1 (λi hi=>ih i hi (g2 i hi)) h1
 |tup cs arr hl hr ih=>
  intro y hy;cases hy with
  |tup _ b g1 g2=>exact .tup cs b g1 (λi hi=>ih i hi (g2 i hi))
theorem VRs.down {ρ ρ':Rho} (s:Sub ρ ρ') {vs:List CV} {xs ys:List Value} (h:VRs ρ vs xs) (k:VRs ρ' vs ys):VRs ρ vs ys:=⟨k.1,λi hi=>(h.2 i hi).down s (k.2 i hi)⟩
theorem BlkRel.down {ρ ρ':Rho} (s:Sub ρ ρ') {w w':World} {k d r k' d' r':Nat} {b:Blk} (h:BlkRel ρ w k d r b) (h':BlkRel ρ' w' k' d' r' b):BlkRel ρ w' k' d' r' b:=by
 cases b with
 |cells cs ro=>
  obtain⟨arr,ty,fz,h1,h2,h3,h4,h5⟩:=h';obtain⟨_,_,_,_,_,g3,_,_⟩:=h;exact⟨arr,ty,fz,h1,h2,g3.down s h3,h4,h5⟩
 |map es c=>
  obtain⟨h0,ms,h1,h2,h3,h4⟩:=h';obtain⟨_,_,_,g2,g3,_⟩:=h;exact⟨h0,ms,h1,g2.down s h2,g3.down s h3,h4⟩
 |strIter x p=>exact h'
 |loop tm ps asg body st pend=>
  obtain⟨h0,r,h1,h2⟩:=h';obtain⟨_,r0,_,g2⟩:=h;exact⟨h0,r,h1,⟨h2.estate,h2.epend,h2.eps,h2.easg,h2.ebody,λt=>(g2.tmp t).down s (h2.tmp t),h2.ok⟩⟩
def restr (ρ:Rho) (n:Nat):Rho:=⟨λi=>if i<n then ρ i else none,ρ.room⟩
theorem iL {ρ:Rho} {n i:Nat} (h:i<n):restr ρ n i=ρ i:=by show(if i<n then ρ i else none)=ρ i;rw[if_pos h]
theorem aBt {ρ:Rho} {n i:Nat} (h:n<=i):restr ρ n i=none:=by show(if i<n then ρ i else none)=none;rw[if_neg (by omega)]
theorem bG {ρ:Rho} {n i:Nat} {p:Nat×Nat} (h:restr ρ n i=some p):i<n/\ρ i=some p:=by
 rcases Nat.lt_or_ge i n with hi|hi
 ·rw[iL hi]at h;exact⟨hi,h⟩
 ·rw[aBt hi]at h;cases h
theorem xV (ρ:Rho) (n:Nat):Sub (restr ρ n) ρ:=λ_ _ h=>⟨(bG h).2,rfl⟩
theorem mI (ρ:Rho) {n m:Nat} (h:n<=m):Sub (restr ρ n) (restr ρ m):=λi p hp=>by
 obtain⟨h1,h2⟩:=bG hp;exact⟨by rw[iL (by omega)];exact h2,rfl⟩
theorem lC {ρ ρ':Rho} (s:Sub ρ ρ') (n:Nat):Sub (restr ρ n) (restr ρ' n):=λi p hp=>by
 obtain⟨h1,h2⟩:=bG hp;exact⟨by rw[iL h1];exact(s i p h2).1,(s i p h2).2⟩
end Go.CM
