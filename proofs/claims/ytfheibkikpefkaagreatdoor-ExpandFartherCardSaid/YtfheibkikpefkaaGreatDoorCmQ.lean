/- Drawn regions: what an operation touches. No condition. -/
import Derived.Test.YtfheibkikpefkaaGreatDoorCmP
set_option linter.unusedVariables false
set_option linter.unusedSimpArgs false
noncomputable section
namespace Go.CM
section
variable {E:Env} {f:Operand->CV} {h h':Heap} {v:CV}
structure Touch (l:List Nat) (h h':Heap):Prop where
 next:h.next<=h'.next
 same:∀k,k∉l->¬(h.next<=k/\k<h'.next)->h'.get k=h.get k
 made:∀k,h.next<=k->k<h'.next->h'.get k≠none
theorem Touch.refl (h:Heap):Touch [] h h:=⟨Nat.le_refl _,λ_ _ _=>rfl,λk h1 h2=>by omega⟩
theorem Touch.new (h:Heap) (b:Blk):Touch [] h (h.new b):=⟨Nat.le_succ _,λk _ hk=>by
 rw[Heap.get_new,if_neg];intro e;exact hk ⟨by omega,by show k<h.next+1;omega⟩,λk h1 h2=>by
 have h2:k<h.next+1:=h2;rw[Heap.get_new,if_pos (by omega)];simp⟩
theorem Touch.put (h:Heap) (i:Nat) (b:Blk):Touch [i] h (h.put i b):=⟨Nat.le_refl _,λk hk _=>by
 rw[Heap.get_put,if_neg];intro e;exact hk (by simp[e]),λk h1 h2=>by
 have h2:k<h.next:=h2;omega⟩
theorem Touch.del_new (h:Heap) (i:Nat) (b:Blk):Touch [i] h ((h.del i).new b):=⟨Nat.le_succ _,λk hk hn=>by
 have e1:h.next≠k:=by
  intro e;exact hn ⟨by omega,by show k<h.next+1;omega⟩
 have e2:i≠k:=by
  intro e;exact hk (by simp[e])
 rw[Heap.get_new];show(if h.next=k then _ else(h.del i).get k)=_
 rw[if_neg e1,Heap.get_del,if_neg e2],λk h1 h2=>by
 have h2:k<h.next+1:=h2;rw[Heap.get_new];show(if h.next=k then _ else _)≠none
 rw[if_pos (by omega)];simp⟩
theorem Touch.mono {l l':List Nat} (t:Touch l h h') (s:∀k,k∈l->k∈l'):Touch l' h h':=⟨t.next,λk hk hn=>t.same k (λhh=>hk (s k hh)) hn,t.made⟩
theorem withH_touch {r:Option CV} (e:withH h r=some (v,h')):Touch [] h h':=by
 obtain⟨_,e⟩:=withH_some e;simp only at e;subst e;exact .refl _
theorem newPtr_touch {cs:Option (List CV)} (e:newPtr h cs=some (v,h')):Touch [] h h':=by
 obtain⟨l,_,e⟩:=newPtr_some e;cases e;exact .new _ _
theorem newSl_touch {n c:Nat} {cs:Option (List CV)} (e:newSl h n c cs=some (v,h')):Touch [] h h':=by
 obtain⟨l,_,e⟩:=newSl_some e;cases e;exact .new _ _
theorem putCells_touch {i off:Nat} {vs:List CV} (e:putCells h i off vs=some h'):Touch [i] h h':=by
 unfold putCells at e;split at e
 ·simp only[Option.map_eq_some_iff]at e
  obtain⟨_,_,rfl⟩:=e;exact .put _ _ _
 ·cases e
theorem mapUpd_touch {s:Option TyS} {m k x:CV} (e:oMapUpd E s m k x h=some (v,h')):Touch (idOf m) h h':=by
 unfold oMapUpd at e;split at e
 ·split at e
  ·split at e
   ·split at e
    ·rename_i r
     split at e
     ·split at e
      ·cases e;exact .put _ _ _
      ·cases e;exact .put _ _ _
      ·cases e
     ·cases e
    ·cases e
   ·cases e
  ·cases e
 ·cases e
theorem mapEntry_touch {s:Option TyS} {m k:CV} (e:oMapEntry E s m k h=some (v,h')):Touch (idOf m) h h':=by
 unfold oMapEntry at e;split at e
 ·split at e
  ·split at e
   ·split at e
    ·rename_i r
     split at e
     ·split at e
      ·split at e
       ·cases e;exact .put _ _ _
       ·cases e
      ·split at e
       ·cases e;exact .put _ _ _
       ·cases e
      ·cases e
     ·cases e
    ·cases e
   ·cases e
  ·cases e
 ·cases e
theorem entryStore_touch {m k x:CV} (e:oEntryStore m k x h=some (v,h')):Touch (idOf m) h h':=by
 unfold oEntryStore at e;split at e
 ·split at e
  ·split at e
   ·split at e
    ·cases e;exact .put _ _ _
    ·cases e
   ·cases e
  ·cases e
 ·cases e
theorem opVal_touch {o:Op} (e:opVal E o f h=some (v,h')):Touch (match wrOf o with|true=>fpOf o f|false=>[]) h h':=by
 unfold opVal at e;split at e
 ·cases e;exact .refl _
 ·cases e;exact .refl _
 ·unfold oPick at e
  split at e
  ·split at e<;>(cases e;exact .refl _)
  ·cases e
 ·exact newPtr_touch e
 ·exact newPtr_touch e
 ·unfold oBuild at e
  split at e
  ·split at e
   ·split at e
    ·exact withH_touch e
    ·cases e
   ·split at e
    ·exact withH_touch e
    ·cases e
   ·cases e
  ·cases e
 ·unfold oBuildSlice at e
  split at e
  ·split at e
   ·split at e
    ·split at e
     ·exact newSl_touch e
     ·cases e
    ·cases e
   ·cases e
  ·cases e
 ·unfold oLoad at e
  split at e
  ·exact withH_touch e
  ·cases e
 ·rename_i t a vv
  unfold oStore ofH at e;split at e
  ·rename_i p hp
   split at e
   ·rename_i h2 hs
    cases e;unfold store storeV at hs;split at hs
    ·split at hs
     ·split at hs
      ·refine(putCells_touch hs).mono λk hk=> ?_
       simp only[wrOf,fpOf,hp,idOf];exact hk
      ·cases hs
     ·cases hs
    ·cases hs
   ·cases e
  ·cases e
 ·unfold oNil at e
  split at e<;>first|(cases e;exact .refl _)|cases e
 ·exact withH_touch e
 ·exact withH_touch e
 ·unfold oConvert at e
  split at e
  ·split at e
   ·split at e
    ·split at e
     ·cases e;exact .refl _
     ·cases e
    ·split at e
     ·cases e;exact .refl _
     ·split at e
      ·split at e
       ·split at e
        ·cases e;exact .refl _
        ·split at e
         ·exact withH_touch e
         ·cases e
       ·cases e
      ·cases e
     ·cases e
    ·cases e
   ·cases e
  ·cases e
 ·unfold oMakeIface at e
  split at e
  ·split at e
   ·cases e
   ·cases e;exact .refl _
  ·cases e
 ·cases e;exact .refl _
 ·cases e;exact .new _ _
 ·unfold oMakeSlice at e
  split at e
  ·split at e
   ·split at e
    ·split at e
     ·split at e
      ·split at e
       ·split at e
        ·split at e
         ·exact newSl_touch e
         ·cases e
        ·cases e
       ·cases e
      ·cases e
     ·cases e
    ·cases e
   ·cases e
  ·cases e
 ·exact withH_touch e
 ·unfold oFieldAddr at e
  split at e
  ·split at e
   ·split at e
    ·cases e;exact .refl _
    ·cases e
   ·cases e
  ·cases e
 ·unfold oField at e
  split at e
  ·split at e
   ·split at e
    ·exact withH_touch e
    ·cases e
   ·cases e
  ·cases e
 ·unfold oIndexAddr at e
  have at0:∀{i o:Nat} {z p:Option Nat},addrAt i o z p h=some (v,h')->Touch [] h h':=by
   intro i o z p e;unfold addrAt at e;split at e
   ·split at e
    ·cases e;exact .refl _
    ·cases e
   ·cases e
  split at e
  ·split at e
   ·split at e
    ·split at e
     ·exact at0 e
     ·cases e
    ·split at e
     ·exact at0 e
     ·cases e
    ·cases e
   ·cases e
  ·cases e
 ·unfold oIndex at e
  split at e
  ·split at e
   ·split at e
    ·split at e
     ·split at e
      ·split at e
       ·exact withH_touch e
       ·cases e
      ·cases e
     ·cases e
    ·split at e
     ·split at e
      ·split at e
       ·cases e;exact .refl _
       ·cases e
      ·cases e
     ·cases e
    ·cases e
   ·cases e
  ·cases e
 ·exact withH_touch e
 ·unfold oAssert at e
  split at e
  ·split at e
   ·cases e
   ·split at e
    ·split at e
     ·cases e;exact .refl _
     ·split at e
      ·exact withH_touch e
      ·cases e
    ·split at e
     ·exact withH_touch e
     ·cases e
    ·cases e
  ·cases e
 ·exact withH_touch e
 ·exact mapUpd_touch e
 ·exact mapUpd_touch e
 ·exact mapEntry_touch e
 ·exact entryStore_touch e
 ·cases e
theorem append0_touch {es:TyS} {s x:CV} (e:oAppend0 h es s x=some (v,h')):Touch [] h h':=by
 unfold oAppend0 at e;split at e
 ·split at e
  ·split at e
   ·split at e
    ·split at e
     ·split at e
      ·cases e
      ·split at e
       ·cases e;exact .new _ _
       ·cases e
     ·cases e
    ·cases e
   ·cases e
  ·cases e
 ·cases e
theorem append_touch {ts t2:Option TyS} {s x:CV} (e:oAppend E h ts t2 s x=some (v,h')):Touch (idOf s) h h':=by
 unfold oAppend at e;split at e
 ·split at e
  ·split at e
   ·rename_i base n cap ex
    split at e
    ·split at e
     ·cases e
     ·split at e
      ·split at e
       ·exact(append0_touch e).mono λk hk=>by cases hk
       ·split at e
        ·split at e
         ·unfold appendAt at e
          split at e
          ·split at e
           ·cases e;exact(Touch.refl _).mono λk hk=>by cases hk
           ·split at e
            ·cases e;exact(Touch.refl _).mono λk hk=>by cases hk
            ·split at e
             ·rename_i h2 hp
              cases e;exact putCells_touch hp
             ·cases e
          ·split at e
           ·split at e
            ·unfold growTo at e
             split at e
             ·cases e;exact(Touch.new _ _).mono λk hk=>by cases hk
             ·split at e
              ·split at e
               ·split at e
                ·cases e;exact .del_new _ _ _
                ·cases e
               ·cases e
              ·cases e
            ·cases e
           ·cases e
         ·cases e
        ·cases e
      ·cases e
    ·cases e
   ·cases e
  ·cases e
 ·cases e
theorem copy_touch {ts:Option TyS} {s x:CV} (e:oCopy E h ts s x=some (v,h')):Touch (idOf s) h h':=by
 unfold oCopy at e;split at e
 ·split at e
  ·split at e
   ·split at e
    ·split at e
     ·split at e
      ·cases e;exact(Touch.refl _).mono λk hk=>by cases hk
      ·split at e
       ·split at e
        ·cases e
        ·split at e
         ·rename_i h2 hp
          cases e;exact putCells_touch hp
         ·cases e
       ·cases e
     ·cases e
    ·cases e
   ·split at e
    ·split at e
     ·cases e;exact(Touch.refl _).mono λk hk=>by cases hk
     ·cases e
    ·cases e
   ·cases e
  ·cases e
 ·cases e
theorem clear_touch {ts:Option TyS} {x:CV} (e:oClear E h ts x=some (v,h')):Touch (idOf x) h h':=by
 unfold oClear at e;split at e
 ·split at e
  ·split at e
   ·cases e;exact(Touch.refl _).mono λk hk=>by cases hk
   ·cases e;exact(Touch.refl _).mono λk hk=>by cases hk
   ·split at e
    ·cases e;exact(Touch.refl _).mono λk hk=>by cases hk
    ·split at e
     ·split at e
      ·rename_i h2 hp
       cases e;exact putCells_touch hp
      ·cases e
     ·cases e
   ·cases e
  ·cases e
 ·cases e
theorem delete_touch {ts:Option TyS} {x y:CV} (e:oDelete E h ts x y=some (v,h')):Touch (idOf x) h h':=by
 unfold oDelete at e;split at e
 ·split at e
  ·split at e
   ·split at e
    ·cases e;exact(Touch.refl _).mono λk hk=>by cases hk
    ·split at e
     ·split at e
      ·cases e;exact Touch.put _ _ _
      ·cases e;exact Touch.put _ _ _
      ·cases e
     ·cases e
    ·cases e
   ·cases e
  ·cases e
 ·cases e
theorem builtin_touch {b:Builtin} {args:Array Operand} {tys:Array TypeId} (e:builtinV E h b tys.toList (args.toList.map f)=some (v,h')):
  Touch (match wrOf (.call {callee:= .builtin b,args:=args,argTypes:=tys})with|true=>fpOf (.call {callee:= .builtin b,args:=args,argTypes:=tys}) f|false=>[]) h h':=by
 have hfp:(match wrOf (.call {callee:= .builtin b,args:=args,argTypes:=tys})with|true=>fpOf (.call {callee:= .builtin b,args:=args,argTypes:=tys}) f|false=>[])=(match wrOf (.call {callee:= .builtin b,args:=args,argTypes:=tys})with|true=>((args.toList.map f).map idOf).flatten|false=>[]):=by
  cases b<;>simp only[wrOf,fpOf,List.map_map,Function.comp_def]
 rw[hfp];generalize args.toList.map f=vs at e;unfold builtinV at e;split at e
 ·split at e
  ·split at e
   ·exact withH_touch e
   ·cases e
  ·cases e
 ·split at e
  ·split at e
   ·refine(append_touch e).mono λk hk=> ?_
    simp only[wrOf,List.map_cons,List.flatten_cons];exact List.mem_append_left _ hk
   ·cases e
  ·cases e
 ·split at e
  ·split at e
   ·refine(copy_touch e).mono λk hk=> ?_
    simp only[wrOf,List.map_cons,List.flatten_cons];exact List.mem_append_left _ hk
   ·cases e
  ·cases e
 ·split at e
  ·exact withH_touch e
  ·cases e
 ·split at e
  ·exact withH_touch e
  ·cases e
 ·split at e
  ·split at e
   ·exact withH_touch e
   ·cases e
  ·cases e
 ·split at e
  ·split at e
   ·refine(clear_touch e).mono λk hk=> ?_
    simp only[wrOf,List.map_cons,List.flatten_cons];exact List.mem_append_left _ hk
   ·cases e
  ·cases e
 ·split at e
  ·split at e
   ·refine(delete_touch e).mono λk hk=> ?_
    simp only[wrOf,List.map_cons,List.flatten_cons];exact List.mem_append_left _ hk
   ·cases e
  ·cases e
 ·cases e
theorem app_touch {tys:List TypeId} {vs:List CV} (e:builtinV E h .append tys vs=some (v,h')):Touch (apWs vs) h h':=by
 unfold builtinV at e;simp only at e;split at e
 ·split at e
  ·exact append_touch e
  ·cases e
 ·cases e
theorem isApp_true {b:Builtin} (h:isApp b=true):b= .append:=by
 cases b<;>first|rfl|cases h
theorem apWs_sub (l:List CV):∀k∈apWs l,k∈(l.map idOf).flatten:=λk hk=>by
 cases l with
 |nil=>exact hk
 |cons s r=>exact List.mem_append_left _ hk
theorem only_next (h:Heap):∀l,(only h l).next=h.next
 |[]=>rfl
 |_::_=>rfl
theorem only_get (h:Heap):∀(l:List Nat) (k:Nat),(only h l).get k=if k∈l then h.get k else none
 |[],k=>by simp[only,Heap.get,Tree.get_leaf]
 |i::l,k=>by
  show((only h l).t.set i (h.get i)).get k=_;rw[Tree.get_set];by_cases e:i=k
  ·subst e;simp
  ·rw[if_neg e]
   have:(only h l).t.get k=(only h l).get k:=rfl;rw[this,only_get h l k];simp[Ne.symm e]
theorem without_next (h:Heap):∀l,(without h l).next=h.next
 |[]=>rfl
 |_::l=>without_next h l
theorem without_get (h:Heap):∀(l:List Nat) (k:Nat),(without h l).get k=if k∈l then none else h.get k
 |[],k=>by simp[without]
 |i::l,k=>by
  show((without h l).del i).get k=_;rw[Heap.get_del];by_cases e:i=k
  ·subst e;simp
  ·rw[if_neg e,without_get h l k]
   simp[Ne.symm e]
theorem back_next (h d:Heap):∀l,(back h d l).next=d.next
 |[]=>rfl
 |_::_=>rfl
theorem back_get (h d:Heap):∀(l:List Nat) (k:Nat),(back h d l).get k=if k∈l then d.get k else h.get k
 |[],k=>by simp[back,Heap.get]
 |i::l,k=>by
  show((back h d l).t.set i (d.get i)).get k=_;rw[Tree.get_set];by_cases e:i=k
  ·subst e;simp
  ·rw[if_neg e]
   have:(back h d l).t.get k=(back h d l).get k:=rfl;rw[this,back_get h d l k];simp[Ne.symm e]
theorem mem_span (lo:Nat):∀(n k:Nat),k∈span lo n↔lo<=k/\k<lo+n
 |0,k=>by
  have:span lo 0=[]:=rfl;rw[this];simp
 |n+1,k=>by
  have:span lo (n+1)=(lo+n)::span lo n:=rfl;rw[this,List.mem_cons,mem_span lo n k];omega
theorem mem_iff (i:Nat):∀l,mem i l=true↔i∈l
 |[]=>by simp[mem]
 |j::l=>by
  unfold mem;cases hb:Nat.beq i j with
  |true=>simp[Nat.eq_of_beq_eq_true hb]
  |false=>
   have hne:i≠j:=by intro e;subst e;rw[Nat.beq_refl]at hb;cases hb
   simp only[List.mem_cons,hne,false_or];exact mem_iff i l
theorem all1_iff (p:Nat->Bool):∀l,all1 l p=true↔∀k∈l,p k=true
 |[]=>by simp[all1]
 |i::l=>by
  have:all1 (i::l) p=match p i with|true=>all1 l p|false=>false:=rfl
  rw[this];cases hp:p i with
  |true=>
   simp only[List.mem_cons,forall_eq_or_imp,hp,true_and];exact all1_iff p l
  |false=>simp[hp]
theorem within_iff (i lo hi:Nat):within i lo hi=true↔lo<=i/\i<hi:=by
 unfold within;rw[Bool.and_eq_true,Nat.ble_eq,Nat.blt_eq]
theorem isNo_iff (b:Option Blk):isNo b=true↔b=none:=by cases b<;>simp[isNo]
end
end Go.CM

noncomputable section
namespace Go.CM
structure Ev where
 on:Bool
 v:CV
 d:Heap
 d':Heap
def Ev.T (e:Ev) (k:Nat):Prop:=e.d'.get k≠e.d.get k
def Ev.Silent (e:Ev):Prop:=∀k,e.d.get k=none/\e.d'.get k=none
structure Apart (x y:Ev):Prop where
 l:∀k,x.T k->y.d.get k=none
 r:∀k,y.T k->x.d.get k=none
 n:∀k,x.T k->y.T k->False
theorem Apart.silentL {x y:Ev} (s:x.Silent):Apart x y:=⟨λk h=>absurd ((s k).2.trans (s k).1.symm) h,λk _=>(s k).1,λk h=>absurd ((s k).2.trans (s k).1.symm) h⟩
theorem Apart.silentR {x y:Ev} (s:y.Silent):Apart x y:=⟨λk _=>(s k).1,λk h=>absurd ((s k).2.trans (s k).1.symm) h,λk _ h=>absurd ((s k).2.trans (s k).1.symm) h⟩
def RecOf (r:Rec) (e:Ev):Prop:=
 match r with
 | .op _ fp wr lo hi=>(∀k,e.d.get k≠none->k∈fp)/\(∀k,e.T k->(wr=true/\k∈fp)\/(lo<=k/\k<hi))/\e.d.next=lo/\e.d'.next=hi
 | .call _ d d'=>e.d=d/\e.d'=d'
 | .opw _ fp ws lo hi=>(∀k,e.d.get k≠none->k∈fp)/\(∀k,e.T k->k∈ws\/(lo<=k/\k<hi))/\e.d.next=lo/\e.d'.next=hi/\∀k∈ws,k∈fp
section
variable {P:Program} {E:Env}
theorem okPair_facts {r:Rec} {x:Ev} {fp:List Nat} {wr:Bool} {lo n:Nat} (hx:RecOf r x) (hle:x.d'.next<=lo) (e:okPair fp wr (span lo n) r=true):
  (∀k∈fp,¬x.T k)/\(wr=true->∀k∈fp,x.d.get k=none)/\∀k,lo<=k->k<lo+n->x.d.get k=none/\¬x.T k:=by
 have news:∀k,lo<=k->k<lo+n->k∈span lo n:=λk h1 h2=>(mem_span _ _ _).2 ⟨h1,h2⟩;cases r with
 |op i fp' wr' lo' hi'=>
  obtain⟨x1,x2,x3,x4⟩:=hx;unfold okPair at e;simp only at e;split at e
  ·rename_i e1
   rw[all1_iff]at e e1
   have c1:∀k∈fp,¬(lo'<=k/\k<hi')/\((wr=true\/wr'=true)->k∉fp'):=by
    intro k hk;have:=e1 k hk;split at this
    ·cases this
    ·rename_i hw
     refine⟨(λhh=>by rw[(within_iff _ _ _).2 hh]at hw;cases hw),λhor=> ?_⟩;have hor:(wr||wr')=true:=by rw[Bool.or_eq_true];exact hor
     rw[hor]at this;simp only[Bool.not_eq_true']at this;intro hm;rw[(mem_iff _ _).2 hm]at this;cases this
   have c2:∀k,lo<=k->k<lo+n->k∉fp':=by
    intro k h1 h2 hm;have:=e k (news k h1 h2);rw[(mem_iff _ _).2 hm]at this;cases this
   refine⟨λk hk hT=> ?_,λhw k hk=>Classical.byContradiction λh=>(c1 k hk).2 (.inl hw) (x1 k h),λk h1 h2=>⟨Classical.byContradiction λh=>c2 k h1 h2 (x1 k h),λhT=> ?_⟩⟩
   ·rcases x2 k hT with⟨w1,w2⟩|w
    ·exact(c1 k hk).2 (.inr w1) w2
    ·exact(c1 k hk).1 w
   ·rcases x2 k hT with⟨w1,w2⟩|w
    ·exact c2 k h1 h2 w2
    ·omega
  ·cases e
 |opw i fp' ws' lo' hi'=>
  obtain⟨x1,x2,x3,x4,x5⟩:=hx;unfold okPair at e;simp only at e;split at e
  ·rename_i e1
   rw[all1_iff]at e e1
   have c1:∀k∈fp,¬(lo'<=k/\k<hi')/\k∉ws'/\(wr=true->k∉fp'):=by
    intro k hk;have:=e1 k hk;split at this
    ·cases this
    ·rename_i hw
     rw[Bool.or_eq_false_iff]at hw;refine⟨(λhh=>by rw[(within_iff _ _ _).2 hh]at hw;cases hw.1),(λhm=>by rw[(mem_iff _ _).2 hm]at hw;cases hw.2),λhor hm=> ?_⟩;rw[hor,(mem_iff _ _).2 hm]at this;cases this
   have c2:∀k,lo<=k->k<lo+n->k∉fp':=by
    intro k h1 h2 hm;have:=e k (news k h1 h2);rw[(mem_iff _ _).2 hm]at this;cases this
   refine⟨λk hk hT=> ?_,λhw k hk=>Classical.byContradiction λh=>(c1 k hk).2.2 hw (x1 k h),λk h1 h2=>⟨Classical.byContradiction λh=>c2 k h1 h2 (x1 k h),λhT=> ?_⟩⟩
   ·rcases x2 k hT with w|w
    ·exact(c1 k hk).2.1 w
    ·exact(c1 k hk).1 w
   ·rcases x2 k hT with w|w
    ·exact c2 k h1 h2 (x5 k w)
    ·omega
  ·cases e
 |call i d d'=>
  obtain⟨rfl,rfl⟩:=hx;unfold okPair at e;simp only at e;split at e
  ·rename_i e1
   rw[all1_iff]at e e1
   have c1:∀k∈fp,x.d.get k=x.d'.get k/\(wr=true->x.d.get k=none):=by
    intro k hk;have:=e1 k hk;split at this
    ·rename_i hb
     refine⟨blkEq_sound hb,λhw=> ?_⟩;rw[hw]at this;exact(isNo_iff _).1 this
    ·cases this
   refine⟨λk hk hT=>hT (c1 k hk).1.symm,λhw k hk=>(c1 k hk).2 hw,λk h1 h2=> ?_⟩;have:=e k (news k h1 h2);split at this
   ·rename_i hb
    exact⟨(isNo_iff _).1 hb,λhT=>hT (((isNo_iff _).1 this).trans ((isNo_iff _).1 hb).symm)⟩
   ·cases this
  ·cases e
theorem apart_of {x y:Ev} {fp ws:List Nat} {lo hi:Nat} (y1:∀k,y.d.get k≠none->k∈fp) (y2:∀k,y.T k->k∈ws\/(lo<=k/\k<hi)) (a:∀k∈fp,¬x.T k) (b:∀k∈ws,¬x.T k/\x.d.get k=none) (c:∀k,lo<=k->k<hi->x.d.get k=none/\¬x.T k):Apart x y:=
 ⟨λk hk=>Classical.byContradiction λh=>a k (y1 k h) hk,λk hk=>(y2 k hk).elim (λw=>(b k w).2) (λw=>(c k w.1 w.2).1),λk hk hk2=>(y2 k hk2).elim (λw=>(b k w).1 hk) (λw=>(c k w.1 w.2).2 hk)⟩
theorem okPair_sound {r:Rec} {x y:Ev} {j:Nat} {fp:List Nat} {wr:Bool} {lo hi:Nat} (hx:RecOf r x) (hy:RecOf (.op j fp wr lo hi) y) (hlh:lo<=hi) (hle:x.d'.next<=lo) (e:okPair fp wr (span lo (hi-lo)) r=true):Apart x y:=by
 obtain⟨y1,y2,y3,y4⟩:=hy;obtain⟨a,b,c⟩:=okPair_facts hx hle e;rw[show lo+(hi-lo)=hi by omega]at c;cases wr with
 |true=>exact apart_of (ws:=fp) y1 (λk hk=>(y2 k hk).imp (·.2) id) a (λk hk=>⟨a k hk,b rfl k hk⟩) c
 |false=>exact apart_of (ws:=[]) y1 (λk hk=>(y2 k hk).elim (λw=>by cases w.1) .inr) a (λk hk=>by cases hk) c
theorem okPairW_sound {r:Rec} {x y:Ev} {j:Nat} {fp ws:List Nat} {lo hi:Nat} (hx:RecOf r x) (hy:RecOf (.opw j fp ws lo hi) y) (hlh:lo<=hi) (hle:x.d'.next<=lo) (e:okPair fp false (span lo (hi-lo)) r=true) (e2:okPair ws true (span lo (hi-lo)) r=true):Apart x y:=by
 obtain⟨y1,y2,y3,y4,y5⟩:=hy;obtain⟨a,b,c⟩:=okPair_facts hx hle e;obtain⟨a2,b2,c2⟩:=okPair_facts hx hle e2;rw[show lo+(hi-lo)=hi by omega]at c;exact apart_of y1 y2 a (λk hk=>⟨a2 k hk,b2 rfl k hk⟩) c
theorem okPairs_sound {ahead:Bits} {fp:List Nat} {wr:Bool} {news:List Nat}:∀{rs:List Rec},okPairs ahead fp wr news rs=true->∀r∈rs,recIdx r∈ahead\/okPair fp wr news r=true
 |[],_,r,hr=>by cases hr
 |x::rs,e,r,hr=>by
  unfold okPairs at e;split at e
  ·rename_i h1
   rcases List.mem_cons.1 hr with rfl|hr
   ·exact .inr h1
   ·exact okPairs_sound e r hr
  ·split at e
   ·rename_i h1
    rcases List.mem_cons.1 hr with rfl|hr
    ·exact .inl h1
    ·exact okPairs_sound e r hr
   ·cases e
theorem hides_sound {ahead:Bits}:∀{rs:List Rec} {hid:List Nat},hides ahead rs=some hid->∀r∈rs,recIdx r∈ahead\/∀x,RecOf r x->∀k,x.T k->k∈hid
 |[],_,_,r,hr=>by cases hr
 |x::rs,hid,e,r,hr=>by
  unfold hides at e;split at e
  ·cases e
  ·rename_i l hl
   have ih:=hides_sound hl;split at e
   ·rename_i h1
    cases e;rcases List.mem_cons.1 hr with rfl|hr
    ·exact .inl h1
    ·exact ih r hr
   ·cases x with
    |op i fp wr lo hi=>
     simp only at e;cases e;rcases List.mem_cons.1 hr with rfl|hr
     ·refine .inr λx hx k hk=> ?_
      simp only[List.mem_append];rcases hx.2.1 k hk with⟨w1,w2⟩|w
      ·exact .inl (.inr (by rw[w1];exact w2))
      ·exact .inl (.inl ((mem_span _ _ _).2 (by omega)))
     ·exact(ih r hr).imp id λh x hx k hk=>List.mem_append_right _ (h x hx k hk)
    |opw i fp ws lo hi=>
     simp only at e;cases e;rcases List.mem_cons.1 hr with rfl|hr
     ·refine .inr λx hx k hk=> ?_
      simp only[List.mem_append];rcases hx.2.1 k hk with w|w
      ·exact .inl (.inr w)
      ·exact .inl (.inl ((mem_span _ _ _).2 (by omega)))
     ·exact(ih r hr).imp id λh x hx k hk=>List.mem_append_right _ (h x hx k hk)
    |call i d d'=>cases e
theorem looks_sound {ahead:Bits} {d d':Heap}:∀{rs:List Rec},looks ahead d d' rs=true->∀r∈rs,recIdx r∈ahead\/∀x,RecOf r x->∀k,x.d.get k≠none->d.get k=d'.get k
 |[],_,r,hr=>by cases hr
 |x::rs,e,r,hr=>by
  unfold looks at e;split at e
  ·rename_i h1
   rcases List.mem_cons.1 hr with rfl|hr
   ·exact .inl h1
   ·exact looks_sound e r hr
  ·cases x with
   |op i fp wr lo hi=>
    simp only at e;rw[Bool.and_eq_true,all1_iff]at e;rcases List.mem_cons.1 hr with rfl|hr
    ·exact .inr λx hx k hk=>blkEq_sound (e.1 k (hx.1 k hk))
    ·exact looks_sound e.2 r hr
   |opw i fp ws lo hi=>
    simp only at e;rw[Bool.and_eq_true,all1_iff]at e;rcases List.mem_cons.1 hr with rfl|hr
    ·exact .inr λx hx k hk=>blkEq_sound (e.1 k (hx.1 k hk))
    ·exact looks_sound e.2 r hr
   |call i d d'=>cases e
theorem call_apart {ahead:Bits} {hid:List Nat} {rs:List Rec} {h d d':Heap} {x:Ev} {r:Rec} {v:CV} (hd:d=without h hid) (h1:hides ahead rs=some hid) (h2:looks ahead d d' rs=true) (h3:∀k∈hid,d'.get k=none) (hr:r∈rs) (hx:RecOf r x):
  recIdx r∈ahead\/Apart x ⟨true,v,d,d'⟩:=by
 rcases hides_sound h1 r hr with h|g1
 ·exact .inl h
 ·rcases looks_sound h2 _ hr with h|g3
  ·exact .inl h
  ·right
   have dn:∀k,k∈hid->d.get k=none:=by
    intro k hk;rw[hd,without_get,if_pos hk]
   refine⟨λk hk=>dn k (g1 x hx k hk),λk hk=> ?_,λk hk hk2=> ?_⟩
   ·rcases Classical.em (x.d.get k=none)with h|h
    ·exact h
    ·exact absurd (g3 x hx k h).symm hk
   ·have:=g1 x hx k hk
    exact hk2 ((h3 k this).trans (dn k this).symm)
def Tri (P:Program) (E:Env) (o:Oper) (tmps:Tm) (e:Ev):Prop:=
 ∀(ρ:Rho) (a:Act) (w:World),HR ρ e.d w->GR E ρ e.d->(∀x∈o.op.operands,VR ρ (cvOf E.globs tmps x) (a.eval x))->∀(next:Act->World->Prop) (Q:Exit->Act->World->Prop),
  (∀x ρ' w',J ρ e.d w ρ' e.d' w'->VR ρ' e.v x->next (a.put o.dst x) w')->∀ro:Option Nat,o.wpIn (FW ro) 0 P a w next Q
structure Fact (P:Program) (E:Env) (all:List Oper) (o:Oper) (tm:Tm) (hp:Heap) (e:Ev) (tm':Tm) (hp':Heap):Prop where
 guard:guardOn all tm o=some e.on
 tri:e.on=true->Tri P E o tm e
 off:e.on=false->e.v= .tup []/\e.Silent/\e.d'.next=e.d.next
 next:e.d.next=hp.next
 next':hp'.next=e.d'.next
 le:hp.next<=hp'.next
 sub:∀k b,e.d.get k=some b->hp.get k=some b
 get:∀k,(e.T k->hp'.get k=e.d'.get k)/\(¬e.T k->hp'.get k=hp.get k)
 tmps:tm'=putTmp tm o.dst e.v
def RecsOk (i:Nat) (ev0:Nat->Ev) (recs:List Rec):Prop:=∀j,j<i->(ev0 j).Silent\/∃r∈recs,recIdx r=j/\RecOf r (ev0 j)
def DrawRes (P:Program) (E:Env) (bs:List Bits) (all:List Oper) (i:Nat) (ev0:Nat->Ev) (tmps:Tm) (h:Heap) (r:R):Prop:=
 ∃(ev:Nat->Ev) (tm:Nat->Tm) (hp:Nat->Heap),(∀j,j<i->ev j=ev0 j)/\tm i=tmps/\hp i=h/\r= .code .normal (tm all.length) (hp all.length)/\
  ∀j o,i<=j->all[j]? =some o->Fact P E all o (tm j) (hp j) (ev j) (tm (j+1)) (hp (j+1))/\∀j',j'<j->j'∈(bs[j]?).getD Bits.nil\/Apart (ev j') (ev j)
theorem draw_cons {bs:List Bits} {all:List Oper} {i:Nat} {ev0:Nat->Ev} {tmps tmps':Tm} {h h':Heap} {r:R} {o:Oper} {e:Ev} (ho:all[i]? =some o)
  (hf:Fact P E all o tmps h e tmps' h') (hp:∀j',j'<i->j'∈(bs[i]?).getD Bits.nil\/Apart (ev0 j') e)
  (ih:DrawRes P E bs all (i+1) (λj=>if j=i then e else ev0 j) tmps' h' r):DrawRes P E bs all i ev0 tmps h r:=by
 obtain⟨ev,tm,hp0,h1,h2,h3,h4,h5⟩:=ih;have hlt:i<all.length:=(List.getElem?_eq_some_iff.1 ho).1;have hi:ev i=e:=by rw[h1 i (Nat.lt_succ_self _)];simp
 have hj:∀j,j<i->ev j=ev0 j:=λj hj=>by
  rw[h1 j (by omega)];have:j≠i:=by omega
  simp[this]
 refine⟨ev,λj=>if j=i then tmps else tm j,λj=>if j=i then h else hp0 j,hj,by simp,by simp,?_,?_⟩
 ·have hne:all.length≠i:=by omega
  simp only[hne,if_false];exact h4
 ·intro j oj hij hoj
  by_cases e0:j=i
  ·subst e0
   rw[ho]at hoj;cases hoj;have e1:j+1≠j:=by omega
   refine⟨?_,λj' hj'=> ?_⟩
   ·simp only[if_true,e1,if_false,hi,h2,h3]
    exact hf
   ·rw[hi,hj j' hj']
    exact hp j' hj'
  ·have e1:j+1≠i:=by omega
   have:=h5 j oj (by omega) hoj;simp only[e0,e1,if_false];exact this
theorem recs_cons {i:Nat} {ev0:Nat->Ev} {recs:List Rec} {e:Ev} {r:Rec} (hr:RecsOk i ev0 recs) (hi:recIdx r=i) (h:RecOf r e):RecsOk (i+1) (λj=>if j=i then e else ev0 j) (r::recs):=by
 intro j hj;by_cases e0:j=i
 ·subst e0
  exact .inr ⟨r,by simp,hi,by simpa using h⟩
 ·simp only[e0,if_false]
  rcases hr j (by omega)with h1|⟨r',h1,h2,h3⟩
  ·exact .inl h1
  ·exact .inr ⟨r',List.mem_cons_of_mem _ h1,h2,h3⟩
theorem recs_silent {i:Nat} {ev0:Nat->Ev} {recs:List Rec} {e:Ev} (hr:RecsOk i ev0 recs) (h:e.Silent):RecsOk (i+1) (λj=>if j=i then e else ev0 j) recs:=by
 intro j hj;by_cases e0:j=i
 ·subst e0
  exact .inl (by simpa using h)
 ·simp only[e0,if_false]
  exact hr j (by omega)
theorem silent_empty (n:Nat) (on:Bool) (v:CV):(⟨on,v,⟨.leaf,n,none⟩,⟨.leaf,n,none⟩⟩:Ev).Silent:=λk=>⟨Tree.get_leaf k,Tree.get_leaf k⟩
theorem next_silent {bs:List Bits} {all r:List Oper} {i:Nat} {recs:List Rec} {ev0:Nat->Ev} {tmps:Tm} {h d':Heap} {o:Oper} {v:CV} {ws:List Nat} {run0:Run} (ho:all[i]? =some o) (hg:guardOn all tmps o=some true)
  (hs:run0 (.draw bs all r (i+1) recs) (putTmp tmps o.dst v) h≠ .stop) (hrec:RecsOk i ev0 recs) (hnx:∀j,j<i->(ev0 j).d'.next<=h.next)
  (htouch:Touch ws (only h []) d') (hws:∀k∈ws,k∈([]:List Nat)) (hdn:d'.next=h.next) (htri:Tri P E o tmps ⟨true,v,only h [],d'⟩)
  (ih:∀(e:Ev) recs' tmps' h',run0 (.draw bs all r (i+1) recs') tmps' h'≠ .stop->RecsOk (i+1) (λj=>if j=i then e else ev0 j) recs'->(∀j,j<i+1->(if j=i then e else ev0 j).d'.next<=h'.next)->
   DrawRes P E bs all (i+1) (λj=>if j=i then e else ev0 j) tmps' h' (run0 (.draw bs all r (i+1) recs') tmps' h')):
  DrawRes P E bs all i ev0 tmps h (run0 (.draw bs all r (i+1) recs) (putTmp tmps o.dst v) h):=by
 have hsil:(⟨true,v,only h [],d'⟩:Ev).Silent:=by
  intro k;have h1:(only h []).get k=none:=by rw[only_get];simp
  refine⟨h1,?_⟩;show d'.get k=none;rw[htouch.same k (λhk=>by cases hws k hk) (by rw[only_next];omega),h1]
 refine draw_cons (e:=⟨true,v,only h [],d'⟩) ho ⟨hg,λ_=>htri,(λe=>by cases e),only_next _ _,hdn.symm,Nat.le_refl _,λk b hb=> ?_,λk=>⟨λhT=>absurd ((hsil k).2.trans (hsil k).1.symm) hT,λ_=>rfl⟩,rfl⟩ (λj' _=> .inr (Apart.silentR hsil)) ?_
 ·rw[(hsil k).1]at hb;cases hb
 ·refine ih _ _ _ _ hs (recs_silent hrec hsil) λj hj=> ?_
  by_cases e0:j=i
  ·rw[if_pos e0];show d'.next<=h.next;omega
  ·rw[if_neg e0];exact hnx j (by omega)
theorem next_core {bs:List Bits} {all r:List Oper} {i:Nat} {recs:List Rec} {ev0:Nat->Ev} {tmps:Tm} {h d':Heap} {o:Oper} {v:CV} {fp ws:List Nat} {rec:Rec} {run0:Run} (ho:all[i]? =some o) (hg:guardOn all tmps o=some true)
  (hs:run0 (.draw bs all r (i+1) (rec::recs)) (putTmp tmps o.dst v) (back h d' (fp++span h.next (d'.next-h.next)))≠ .stop) (hrec:RecsOk i ev0 recs) (hnx:∀j,j<i->(ev0 j).d'.next<=h.next)
  (htouch:Touch ws (only h fp) d') (hws:∀k∈ws,k∈fp) (hidx:recIdx rec=i) (hro:RecOf rec ⟨true,v,only h fp,d'⟩) (hok:∀r∈recs,recIdx r∈((nth bs i).getD Bits.nil)\/∀x,RecOf r x->x.d'.next<=h.next->Apart x ⟨true,v,only h fp,d'⟩) (htri:Tri P E o tmps ⟨true,v,only h fp,d'⟩)
  (ih:∀(e:Ev) recs' tmps' h',run0 (.draw bs all r (i+1) recs') tmps' h'≠ .stop->RecsOk (i+1) (λj=>if j=i then e else ev0 j) recs'->(∀j,j<i+1->(if j=i then e else ev0 j).d'.next<=h'.next)->
   DrawRes P E bs all (i+1) (λj=>if j=i then e else ev0 j) tmps' h' (run0 (.draw bs all r (i+1) recs') tmps' h')):
  DrawRes P E bs all i ev0 tmps h (run0 (.draw bs all r (i+1) (rec::recs)) (putTmp tmps o.dst v) (back h d' (fp++span h.next (d'.next-h.next)))):=by
 have hnext:h.next<=d'.next:=by have:=htouch.next;rw[only_next]at this;exact this
 have hbn:(back h d' (fp++span h.next (d'.next-h.next))).next=d'.next:=back_next _ _ _;refine draw_cons (e:=⟨true,v,only h fp,d'⟩) ho ⟨hg,λ_=>htri,(λe=>by cases e),only_next _ _,hbn,by rw[hbn];exact hnext,λk b hb=> ?_,λk=>⟨λhT=> ?_,λhT=> ?_⟩,rfl⟩ (λj' hj'=> ?_) ?_
 ·have hb:(only h fp).get k=some b:=hb
  rw[only_get]at hb;split at hb
  ·exact hb
  ·cases hb
 ·rw[back_get,if_pos]
  rw[List.mem_append,mem_span];rcases Classical.em (h.next<=k/\k<d'.next)with h1|h1
  ·exact .inr (by omega)
  ·exact .inl (hws k (Classical.not_not.1 λhn=>hT (htouch.same k hn (by rw[only_next];exact h1))))
 ·have hT:d'.get k=(only h fp).get k:=Classical.not_not.1 hT
  rw[back_get];split
  ·rename_i hin
   rw[hT,only_get];split
   ·rfl
   ·rename_i hnf
    rw[List.mem_append,mem_span]at hin;rcases hin with hin|hin
    ·exact absurd hin hnf
    ·have h1:d'.get k≠none:=htouch.made k (by rw[only_next];omega) (by omega)
     have h2:(only h fp).get k=none:=by rw[only_get,if_neg hnf]
     exact absurd (hT.trans h2) h1
  ·rfl
 ·rcases hrec j' hj' with h1|⟨r',h1,h2,h3⟩
  ·exact .inr (Apart.silentL h1)
  ·rcases hok r' h1 with h4|h4
   ·left;rw[<-nth_eq,<-h2];exact h4
   ·exact .inr (h4 _ h3 (hnx j' hj'))
 ·refine ih _ _ _ _ hs (recs_cons hrec hidx hro) λj hj=> ?_
  rw[hbn];by_cases e0:j=i
  ·rw[if_pos e0];exact Nat.le_refl _
  ·rw[if_neg e0]
   exact Nat.le_trans (hnx j (by omega)) hnext
theorem touch_own {fp ws:List Nat} {h d':Heap} {v:CV} (t:Touch ws (only h fp) d'):(∀k,(⟨true,v,only h fp,d'⟩:Ev).d.get k≠none->k∈fp)/\∀k,(⟨true,v,only h fp,d'⟩:Ev).T k->k∈ws\/(h.next<=k/\k<d'.next):=
 ⟨λk hk=>Classical.byContradiction λh1=>hk (show(only h fp).get k=none by rw[only_get,if_neg h1]),λk hk=>by
  rcases Classical.em (h.next<=k/\k<d'.next)with h1|h1
  ·exact .inr h1
  ·exact .inl (Classical.not_not.1 λhn=>hk (t.same k hn (by rw[only_next];exact h1)))⟩
theorem next_facts {bs:List Bits} {all r:List Oper} {i:Nat} {recs:List Rec} {ev0:Nat->Ev} {tmps:Tm} {h:Heap} {o:Oper} {fp:List Nat} {x:Option (CV×Heap)} {run0:Run} (ho:all[i]? =some o) (hg:guardOn all tmps o=some true)
  (hs:dNext run0 bs all r i recs o.dst tmps h fp (wrOf o.op) x≠ .stop) (hrec:RecsOk i ev0 recs) (hnx:∀j,j<i->(ev0 j).d'.next<=h.next)
  (ht:∀p,x=some p->Touch (match wrOf o.op with|true=>fp|false=>[]) (only h fp) p.2) (htri:∀p,x=some p->Tri P E o tmps ⟨true,p.1,only h fp,p.2⟩)
  (ih:∀(e:Ev) recs' tmps' h',run0 (.draw bs all r (i+1) recs') tmps' h'≠ .stop->RecsOk (i+1) (λj=>if j=i then e else ev0 j) recs'->(∀j,j<i+1->(if j=i then e else ev0 j).d'.next<=h'.next)->
   DrawRes P E bs all (i+1) (λj=>if j=i then e else ev0 j) tmps' h' (run0 (.draw bs all r (i+1) recs') tmps' h')):
  DrawRes P E bs all i ev0 tmps h (dNext run0 bs all r i recs o.dst tmps h fp (wrOf o.op) x):=by
 unfold dNext at hs ⊢;cases x with
 |none=>exact absurd rfl hs
 |some p=>
  obtain⟨v,d'⟩:=p;have htouch:=ht _ rfl;have htri:=htri _ rfl;simp only at hs ⊢ htouch htri;have hnext:h.next<=d'.next:=by have:=htouch.next;rw[only_next]at this;exact this
  cases hq:isNil fp&&Nat.beq d'.next h.next with
  |true=>
   rw[hq]at hs;simp only at hs ⊢;rw[Bool.and_eq_true]at hq;have hfp:fp=[]:=by cases fp with|nil=>rfl|cons _ _=>simp[isNil]at hq
   subst hfp;exact next_silent ho hg hs hrec hnx htouch (λk hk=>by cases hw:wrOf o.op<;>rw[hw]at hk<;>exact hk) (Nat.eq_of_beq_eq_true hq.2) htri ih
  |false=>
   rw[hq]at hs;simp only at hs ⊢;cases hok:okPairs ((nth bs i).getD Bits.nil) fp (wrOf o.op) (span h.next (d'.next-h.next)) recs with
   |false=>rw[hok]at hs;exact absurd rfl hs
   |true=>
    rw[hok]at hs;simp only at hs ⊢;obtain⟨t1,t2⟩:=touch_own (v:=v) htouch
    have hro:RecOf (.op i fp (wrOf o.op) h.next d'.next) ⟨true,v,only h fp,d'⟩:=⟨t1,λk hk=>(t2 k hk).imp (λw=>by
     cases hw:wrOf o.op with
     |true=>rw[hw]at w;exact⟨rfl,w⟩
     |false=>rw[hw]at w;cases w) id,only_next _ _,rfl⟩
    exact next_core (ws:=match wrOf o.op with|true=>fp|false=>[]) ho hg hs hrec hnx htouch (λk hk=>by
     cases hw:wrOf o.op with
     |true=>rw[hw]at hk;exact hk
     |false=>rw[hw]at hk;cases hk) rfl hro (λr hr=>(okPairs_sound hok r hr).imp id λh4 x hx hle=>okPair_sound hx hro hnext hle h4) htri ih
theorem nextW_facts {bs:List Bits} {all r:List Oper} {i:Nat} {recs:List Rec} {ev0:Nat->Ev} {tmps:Tm} {h:Heap} {o:Oper} {fp ws:List Nat} {x:Option (CV×Heap)} {run0:Run} (ho:all[i]? =some o) (hg:guardOn all tmps o=some true)
  (hs:dNextW run0 bs all r i recs o.dst tmps h fp ws x≠ .stop) (hrec:RecsOk i ev0 recs) (hnx:∀j,j<i->(ev0 j).d'.next<=h.next)
  (hws:∀k∈ws,k∈fp) (ht:∀p,x=some p->Touch ws (only h fp) p.2) (htri:∀p,x=some p->Tri P E o tmps ⟨true,p.1,only h fp,p.2⟩)
  (ih:∀(e:Ev) recs' tmps' h',run0 (.draw bs all r (i+1) recs') tmps' h'≠ .stop->RecsOk (i+1) (λj=>if j=i then e else ev0 j) recs'->(∀j,j<i+1->(if j=i then e else ev0 j).d'.next<=h'.next)->
   DrawRes P E bs all (i+1) (λj=>if j=i then e else ev0 j) tmps' h' (run0 (.draw bs all r (i+1) recs') tmps' h')):
  DrawRes P E bs all i ev0 tmps h (dNextW run0 bs all r i recs o.dst tmps h fp ws x):=by
 unfold dNextW at hs ⊢;cases x with
 |none=>exact absurd rfl hs
 |some p=>
  obtain⟨v,d'⟩:=p;have htouch:=ht _ rfl;have htri:=htri _ rfl;simp only at hs ⊢ htouch htri;have hnext:h.next<=d'.next:=by have:=htouch.next;rw[only_next]at this;exact this
  cases hq:isNil fp&&Nat.beq d'.next h.next with
  |true=>
   rw[hq]at hs;simp only at hs ⊢;rw[Bool.and_eq_true]at hq;have hfp:fp=[]:=by cases fp with|nil=>rfl|cons _ _=>simp[isNil]at hq
   subst hfp;exact next_silent ho hg hs hrec hnx htouch hws (Nat.eq_of_beq_eq_true hq.2) htri ih
  |false=>
   rw[hq]at hs;simp only at hs ⊢;cases hok:okPairs ((nth bs i).getD Bits.nil) fp false (span h.next (d'.next-h.next)) recs&&okPairs ((nth bs i).getD Bits.nil) ws true (span h.next (d'.next-h.next)) recs with
   |false=>rw[hok]at hs;exact absurd rfl hs
   |true=>
    rw[hok]at hs;simp only at hs ⊢;rw[Bool.and_eq_true]at hok;obtain⟨t1,t2⟩:=touch_own (v:=v) htouch;have hro:RecOf (.opw i fp ws h.next d'.next) ⟨true,v,only h fp,d'⟩:=⟨t1,t2,only_next _ _,rfl,hws⟩;exact next_core ho hg hs hrec hnx htouch hws rfl hro (λr hr=>(okPairs_sound hok.1 r hr).elim .inl λh4=>(okPairs_sound hok.2 r hr).imp id λh5 x hx hle=>okPairW_sound hx hro hnext hle h4 h5) htri ih
end
end Go.CM
