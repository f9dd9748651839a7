/- Drawn regions: what an operation touches. No condition. -/
import Derived.Test.YtnjkaahbhebaeaaGreatDoorCmO
import Derived.Orders
set_option linter.unusedVariables false
set_option linter.unusedSimpArgs false
noncomputable section
namespace Go.CM
section
variable {E:Env} {f:Operand->CV} {h h':Heap} {v:CV}
structure Touch (l:List Nat) (h h':Heap):Prop where
 next:h.next<=h'.next
 same:∀k,k∉l->¬(h.next<=k/\k<h'.next)->h'.get k=h.get k
 made:∀k,h.next<=k->k<h'.next->h'.get k≠none
theorem Touch.refl (h:Heap):Touch [] h h:=⟨Nat.le_refl _,λ_ _ _=>rfl,λk h1 h2=>by omega⟩
theorem Touch.new (h:Heap) (b:Blk):Touch [] h (h.new b):=⟨Nat.le_succ _,λk _ hk=>by
 rw[Heap.get_new,if_neg];intro e;exact hk ⟨by omega,by show k<h.next+1;omega⟩,λk h1 h2=>by
 have h2:k<h.next+1:=h2;rw[Heap.get_new,if_pos (by omega)];simp⟩
theorem Touch.put (h:Heap) (i:Nat) (b:Blk):Touch [i] h (h.put i b):=⟨Nat.le_refl _,λk hk _=>by
 rw[Heap.get_put,if_neg];intro e;exact hk (by simp[e]),λk h1 h2=>by
 have h2:k<h.next:=h2;omega⟩
theorem Touch.del_new (h:Heap) (i:Nat) (b:Blk):Touch [i] h ((h.del i).new b):=⟨Nat.le_succ _,λk hk hn=>by
 have e1:h.next≠k:=by
  intro e;exact hn ⟨by omega,by show k<h.next+1;omega⟩
 have e2:i≠k:=by
  intro e;exact hk (by simp[e])
 rw[Heap.get_new];show(if h.next=k then _ else(h.del i).get k)=_
 rw[if_neg e1,Heap.get_del,if_neg e2],λk h1 h2=>by
 have h2:k<h.next+1:=h2;rw[Heap.get_new];show(if h.next=k then _ else _)≠none
 rw[if_pos (by omega)];simp⟩
theorem Touch.mono {l l':List Nat} (t:Touch l h h') (s:∀k,k∈l->k∈l'):Touch l' h h':=⟨t.next,λk hk hn=>t.same k (λhh=>hk (s k hh)) hn,t.made⟩
theorem withH_touch {r:Option CV} (e:withH h r=some (v,h')):Touch [] h h':=by
 obtain⟨_,e⟩:=withH_some e;simp only at e;subst e;exact .refl _
theorem newPtr_touch {cs:Option (List CV)} (e:newPtr h cs=some (v,h')):Touch [] h h':=by
 obtain⟨l,_,e⟩:=newPtr_some e;cases e;exact .new _ _
theorem newSl_touch {n c:Nat} {cs:Option (List CV)} (e:newSl h n c cs=some (v,h')):Touch [] h h':=by
 obtain⟨l,_,e⟩:=newSl_some e;cases e;exact .new _ _
theorem putCells_touch {i off:Nat} {vs:List CV} (e:putCells h i off vs=some h'):Touch [i] h h':=by
 unfold putCells at e;split at e
 ·simp only[Option.map_eq_some_iff]at e
  obtain⟨_,_,rfl⟩:=e;exact .put _ _ _
 ·cases e
theorem mapUpd_touch {s:Option TyS} {m k x:CV} (e:oMapUpd E s m k x h=some (v,h')):Touch (idOf m) h h':=by
 unfold oMapUpd at e;split at e
 ·split at e
  ·split at e
   ·split at e
    ·rename_i r
     split at e
     ·split at e
      ·cases e;exact .put _ _ _
      ·cases e;exact .put _ _ _
      ·cases e
     ·cases e
    ·cases e
   ·cases e
  ·cases e
 ·cases e
theorem mapEntry_touch {s:Option TyS} {m k:CV} (e:oMapEntry E s m k h=some (v,h')):Touch (idOf m) h h':=by
 unfold oMapEntry at e;split at e
 ·split at e
  ·split at e
   ·split at e
    ·rename_i r
     split at e
     ·split at e
      ·split at e
       ·cases e;exact .put _ _ _
       ·cases e
      ·split at e
       ·cases e;exact .put _ _ _
       ·cases e
      ·cases e
     ·cases e
    ·cases e
   ·cases e
  ·cases e
 ·cases e
theorem entryStore_touch {m k x:CV} (e:oEntryStore m k x h=some (v,h')):Touch (idOf m) h h':=by
 unfold oEntryStore at e;split at e
 ·split at e
  ·split at e
   ·split at e
    ·cases e;exact .put _ _ _
    ·cases e
   ·cases e
  ·cases e
 ·cases e
theorem opVal_touch {o:Op} (e:opVal E o f h=some (v,h')):Touch (match wrOf o with|true=>fpOf o f|false=>[]) h h':=by
 unfold opVal at e;split at e
 ·cases e;exact .refl _
 ·cases e;exact .refl _
 ·unfold oPick at e
  split at e
  ·split at e<;>(cases e;exact .refl _)
  ·cases e
 ·exact newPtr_touch e
 ·exact newPtr_touch e
 ·unfold oBuild at e
  split at e
  ·split at e
   ·split at e
    ·exact withH_touch e
    ·cases e
   ·split at e
    ·exact withH_touch e
    ·cases e
   ·cases e
  ·cases e
 ·unfold oBuildSlice at e
  split at e
  ·split at e
   ·split at e
    ·split at e
     ·exact newSl_touch e
     ·cases e
    ·cases e
   ·cases e
  ·cases e
 ·unfold oLoad at e
  split at e
  ·exact withH_touch e
  ·cases e
 ·rename_i t a vv
  unfold oStore ofH at e;split at e
  ·rename_i p hp
   split at e
   ·rename_i h2 hs
    cases e;unfold store storeV at hs;split at hs
    ·split at hs
     ·split at hs
      ·refine(putCells_touch hs).mono λk hk=> ?_
       simp only[wrOf,fpOf,hp,idOf];exact hk
      ·cases hs
     ·cases hs
    ·cases hs
   ·cases e
  ·cases e
 ·unfold oNil at e
  split at e<;>first|(cases e;exact .refl _)|cases e
 ·exact withH_touch e
 ·exact withH_touch e
 ·unfold oConvert at e
  split at e
  ·split at e
   ·split at e
    ·split at e
     ·cases e;exact .refl _
     ·cases e
    ·split at e
     ·cases e;exact .refl _
     ·split at e
      ·split at e
       ·split at e
        ·cases e;exact .refl _
        ·split at e
         ·exact withH_touch e
         ·cases e
       ·cases e
      ·cases e
     ·cases e
    ·cases e
   ·cases e
  ·cases e
 ·unfold oMakeIface at e
  split at e
  ·split at e
   ·cases e
   ·cases e;exact .refl _
  ·cases e
 ·cases e;exact .refl _
 ·cases e;exact .new _ _
 ·unfold oMakeSlice at e
  split at e
  ·split at e
   ·split at e
    ·split at e
     ·split at e
      ·split at e
       ·split at e
        ·split at e
         ·exact newSl_touch e
         ·cases e
        ·cases e
       ·cases e
      ·cases e
     ·cases e
    ·cases e
   ·cases e
  ·cases e
 ·exact withH_touch e
 ·unfold oFieldAddr at e
  split at e
  ·split at e
   ·split at e
    ·cases e;exact .refl _
    ·cases e
   ·cases e
  ·cases e
 ·unfold oField at e
  split at e
  ·split at e
   ·split at e
    ·exact withH_touch e
    ·cases e
   ·cases e
  ·cases e
 ·unfold oIndexAddr at e
  have at0:∀{i o:Nat} {z p:Option Nat},addrAt i o z p h=some (v,h')->Touch [] h h':=by
   intro i o z p e;unfold addrAt at e;split at e
   ·split at e
    ·cases e;exact .refl _
    ·cases e
   ·cases e
  split at e
  ·split at e
   ·split at e
    ·split at e
     ·exact at0 e
     ·cases e
    ·split at e
     ·exact at0 e
     ·cases e
    ·cases e
   ·cases e
  ·cases e
 ·unfold oIndex at e
  split at e
  ·split at e
   ·split at e
    ·split at e
     ·split at e
      ·split at e
       ·exact withH_touch e
       ·cases e
      ·cases e
     ·cases e
    ·split at e
     ·split at e
      ·split at e
       ·cases e;exact .refl _
       ·cases e
      ·cases e
     ·cases e
    ·cases e
   ·cases e
  ·cases e
 ·exact withH_touch e
 ·unfold oAssert at e
  split at e
  ·split at e
   ·cases e
   ·split at e
    ·split at e
     ·cases e;exact .refl _
     ·split at e
      ·exact withH_touch e
      ·cases e
    ·split at e
     ·exact withH_touch e
     ·cases e
    ·cases e
  ·cases e
 ·exact withH_touch e
 ·exact mapUpd_touch e
 ·exact mapUpd_touch e
 ·exact mapEntry_touch e
 ·exact entryStore_touch e
 ·cases e
theorem append0_touch {es:TyS} {s x:CV} (e:oAppend0 h es s x=some (v,h')):Touch [] h h':=by
 unfold oAppend0 at e;split at e
 ·split at e
  ·split at e
   ·split at e
    ·split at e
     ·split at e
      ·cases e
      ·split at e
       ·cases e;exact .new _ _
       ·cases e
     ·cases e
    ·cases e
   ·cases e
  ·cases e
 ·cases e
theorem append_touch {ts t2:Option TyS} {s x:CV} (e:oAppend E h ts t2 s x=some (v,h')):Touch (idOf s) h h':=by
 unfold oAppend at e;split at e
 ·split at e
  ·split at e
   ·rename_i base n cap ex
    split at e
    ·split at e
     ·cases e
     ·split at e
      ·split at e
       ·exact(append0_touch e).mono λk hk=>by cases hk
       ·split at e
        ·split at e
         ·unfold appendAt at e
          split at e
          ·split at e
           ·cases e;exact(Touch.refl _).mono λk hk=>by cases hk
           ·split at e
            ·cases e;exact(Touch.refl _).mono λk hk=>by cases hk
            ·split at e
             ·rename_i h2 hp
              cases e;exact putCells_touch hp
             ·cases e
          ·split at e
           ·split at e
            ·unfold growTo at e
             split at e
             ·cases e;exact(Touch.new _ _).mono λk hk=>by cases hk
             ·split at e
              ·split at e
               ·split at e
                ·cases e;exact .del_new _ _ _
                ·cases e
               ·cases e
              ·cases e
            ·cases e
           ·cases e
         ·cases e
        ·cases e
      ·cases e
    ·cases e
   ·cases e
  ·cases e
 ·cases e
theorem copy_touch {ts:Option TyS} {s x:CV} (e:oCopy E h ts s x=some (v,h')):Touch (idOf s) h h':=by
 unfold oCopy at e;split at e
 ·split at e
  ·split at e
   ·split at e
    ·split at e
     ·split at e
      ·cases e;exact(Touch.refl _).mono λk hk=>by cases hk
      ·split at e
       ·split at e
        ·cases e
        ·split at e
         ·rename_i h2 hp
          cases e;exact putCells_touch hp
         ·cases e
       ·cases e
     ·cases e
    ·cases e
   ·split at e
    ·split at e
     ·cases e;exact(Touch.refl _).mono λk hk=>by cases hk
     ·cases e
    ·cases e
   ·cases e
  ·cases e
 ·cases e
theorem clear_touch {ts:Option TyS} {x:CV} (e:oClear E h ts x=some (v,h')):Touch (idOf x) h h':=by
 unfold oClear at e;split at e
 ·split at e
  ·split at e
   ·cases e;exact(Touch.refl _).mono λk hk=>by cases hk
   ·cases e;exact(Touch.refl _).mono λk hk=>by cases hk
   ·split at e
    ·cases e;exact(Touch.refl _).mono λk hk=>by cases hk
    ·split at e
     ·split at e
      ·rename_i h2 hp
       cases e;exact putCells_touch hp
      ·cases e
     ·cases e
   ·cases e
  ·cases e
 ·cases e
theorem delete_touch {ts:Option TyS} {x y:CV} (e:oDelete E h ts x y=some (v,h')):Touch (idOf x) h h':=by
 unfold oDelete at e;split at e
 ·split at e
  ·split at e
   ·split at e
    ·cases e;exact(Touch.refl _).mono λk hk=>by cases hk
    ·split at e
     ·split at e
      ·cases e;exact Touch.put _ _ _
      ·cases e;exact Touch.put _ _ _
      ·cases e
     ·cases e
    ·cases e
   ·cases e
  ·cases e
 ·cases e
theorem builtin_touch {b:Builtin} {args:Array Operand} {tys:Array TypeId} (e:builtinV E h b tys.toList (args.toList.map f)=some (v,h')):
  Touch (match wrOf (.call {callee:= .builtin b,args:=args,argTypes:=tys})with|true=>fpOf (.call {callee:= .builtin b,args:=args,argTypes:=tys}) f|false=>[]) h h':=by
 have hfp:(match wrOf (.call {callee:= .builtin b,args:=args,argTypes:=tys})with|true=>fpOf (.call {callee:= .builtin b,args:=args,argTypes:=tys}) f|false=>[])=(match wrOf (.call {callee:= .builtin b,args:=args,argTypes:=tys})with|true=>((args.toList.map f).map idOf).flatten|false=>[]):=by
  cases b<;>simp only[wrOf,fpOf,List.map_map,Function.comp_def]
 rw[hfp];generalize args.toList.map f=vs at e;unfold builtinV at e;split at e
 ·split at e
  ·split at e
   ·exact withH_touch e
   ·cases e
  ·cases e
 ·split at e
  ·split at e
   ·refine(append_touch e).mono λk hk=> ?_
    simp only[wrOf,List.map_cons,List.flatten_cons];exact List.mem_append_left _ hk
   ·cases e
  ·cases e
 ·split at e
  ·split at e
   ·refine(copy_touch e).mono λk hk=> ?_
    simp only[wrOf,List.map_cons,List.flatten_cons];exact List.mem_append_left _ hk
   ·cases e
  ·cases e
 ·split at e
  ·exact withH_touch e
  ·cases e
 ·split at e
  ·exact withH_touch e
  ·cases e
 ·split at e
  ·split at e
   ·exact withH_touch e
   ·cases e
  ·cases e
 ·split at e
  ·split at e
   ·refine(clear_touch e).mono λk hk=> ?_
    simp only[wrOf,List.map_cons,List.flatten_cons];exact List.mem_append_left _ hk
   ·cases e
  ·cases e
 ·split at e
  ·split at e
   ·refine(delete_touch e).mono λk hk=> ?_
    simp only[wrOf,List.map_cons,List.flatten_cons];exact List.mem_append_left _ hk
   ·cases e
  ·cases e
 ·cases e
theorem app_touch {tys:List TypeId} {vs:List CV} (e:builtinV E h .append tys vs=some (v,h')):Touch (apWs vs) h h':=by
 unfold builtinV at e;simp only at e;split at e
 ·split at e
  ·exact append_touch e
  ·cases e
 ·cases e
theorem isApp_true {b:Builtin} (h:isApp b=true):b= .append:=by
 cases b<;>first|rfl|cases h
theorem apWs_sub (l:List CV):∀k∈apWs l,k∈(l.map idOf).flatten:=λk hk=>by
 cases l with
 |nil=>exact hk
 |cons s r=>exact List.mem_append_left _ hk
theorem only_next (h:Heap):∀l,(only h l).next=h.next
 |[]=>rfl
 |_::_=>rfl
theorem only_get (h:Heap):∀(l:List Nat) (k:Nat),(only h l).get k=if k∈l then h.get k else none
 |[],k=>by simp[only,Heap.get,Tree.get_leaf]
 |i::l,k=>by
  show((only h l).t.set i (h.get i)).get k=_;rw[Tree.get_set];by_cases e:i=k
  ·subst e;simp
  ·rw[if_neg e]
   have:(only h l).t.get k=(only h l).get k:=rfl;rw[this,only_get h l k];simp[Ne.symm e]
theorem without_next (h:Heap):∀l,(without h l).next=h.next
 |[]=>rfl
 |_::l=>without_next h l
theorem without_get (h:Heap):∀(l:List Nat) (k:Nat),(without h l).get k=if k∈l then none else h.get k
 |[],k=>by simp[without]
 |i::l,k=>by
  show((without h l).del i).get k=_;rw[Heap.get_del];by_cases e:i=k
  ·subst e;simp
  ·rw[if_neg e,without_get h l k]
   simp[Ne.symm e]
theorem back_next (h d:Heap):∀l,(back h d l).next=d.next
 |[]=>rfl
 |_::_=>rfl
theorem back_get (h d:Heap):∀(l:List Nat) (k:Nat),(back h d l).get k=if k∈l then d.get k else h.get k
 |[],k=>by simp[back,Heap.get]
 |i::l,k=>by
  show((back h d l).t.set i (d.get i)).get k=_;rw[Tree.get_set];by_cases e:i=k
  ·subst e;simp
  ·rw[if_neg e]
   have:(back h d l).t.get k=(back h d l).get k:=rfl;rw[this,back_get h d l k];simp[Ne.symm e]
theorem mem_span (lo:Nat):∀(n k:Nat),k∈span lo n↔lo<=k/\k<lo+n
 |0,k=>by
  have:span lo 0=[]:=rfl;rw[this];simp
 |n+1,k=>by
  have:span lo (n+1)=(lo+n)::span lo n:=rfl;rw[this,List.mem_cons,mem_span lo n k];omega
theorem mem_iff (i:Nat):∀l,mem i l=true↔i∈l
 |[]=>by simp[mem]
 |j::l=>by
  unfold mem;cases hb:Nat.beq i j with
  |true=>simp[Nat.eq_of_beq_eq_true hb]
  |false=>
   have hne:i≠j:=by intro e;subst e;rw[Nat.beq_refl]at hb;cases hb
   simp only[List.mem_cons,hne,false_or];exact mem_iff i l
theorem all1_iff (p:Nat->Bool):∀l,all1 l p=true↔∀k∈l,p k=true
 |[]=>by simp[all1]
 |i::l=>by
  have:all1 (i::l) p=match p i with|true=>all1 l p|false=>false:=rfl
  rw[this];cases hp:p i with
  |true=>
   simp only[List.mem_cons,forall_eq_or_imp,hp,true_and];exact all1_iff p l
  |false=>simp[hp]
theorem within_iff (i lo hi:Nat):within i lo hi=true↔lo<=i/\i<hi:=by
 unfold within;rw[Bool.and_eq_true,Nat.ble_eq,Nat.blt_eq]
theorem isNo_iff (b:Option Blk):isNo b=true↔b=none:=by cases b<;>simp[isNo]
end
end Go.CM

noncomputable section
namespace Go.CM
structure Ev where
 on:Bool
 v:CV
 d:Heap
 d':Heap
def Ev.T (e:Ev) (k:Nat):Prop:=e.d'.get k≠e.d.get k
def Ev.Silent (e:Ev):Prop:=∀k,e.d.get k=none/\e.d'.get k=none
structure Apart (x y:Ev):Prop where
 l:∀k,x.T k->y.d.get k=none
 r:∀k,y.T k->x.d.get k=none
 n:∀k,x.T k->y.T k->False
theorem Apart.silentL {x y:Ev} (s:x.Silent):Apart x y:=⟨λk h=>absurd ((s k).2.trans (s k).1.symm) h,λk _=>(s k).1,λk h=>absurd ((s k).2.trans (s k).1.symm) h⟩
theorem Apart.silentR {x y:Ev} (s:y.Silent):Apart x y:=⟨λk _=>(s k).1,λk h=>absurd ((s k).2.trans (s k).1.symm) h,λk _ h=>absurd ((s k).2.trans (s k).1.symm) h⟩
def RecOf (r:Rec) (e:Ev):Prop:=
 match r with
 | .op _ fp wr lo hi=>(∀k,e.d.get k≠none->k∈fp)/\(∀k,e.T k->(wr=true/\k∈fp)\/(lo<=k/\k<hi))/\e.d.next=lo/\e.d'.next=hi
 | .call _ d d'=>e.d=d/\e.d'=d'
 | .opw _ fp ws lo hi=>(∀k,e.d.get k≠none->k∈fp)/\(∀k,e.T k->k∈ws\/(lo<=k/\k<hi))/\e.d.next=lo/\e.d'.next=hi/\∀k∈ws,k∈fp
section
variable {P:Program} {E:Env}
theorem okPair_facts {r:Rec} {x:Ev} {fp:List Nat} {wr:Bool} {lo n:Nat} (hx:RecOf r x) (hle:x.d'.next<=lo) (e:okPair fp wr (span lo n) r=true):
  (∀k∈fp,¬x.T k)/\(wr=true->∀k∈fp,x.d.get k=none)/\∀k,lo<=k->k<lo+n->x.d.get k=none/\¬x.T k:=by
 have news:∀k,lo<=k->k<lo+n->k∈span lo n:=λk h1 h2=>(mem_span _ _ _).2 ⟨h1,h2⟩;cases r with
 |op i fp' wr' lo' hi'=>
  obtain⟨x1,x2,x3,x4⟩:=hx;unfold okPair at e;simp only at e;split at e
  ·rename_i e1
   rw[all1_iff]at e e1
   have c1:∀k∈fp,¬(lo'<=k/\k<hi')/\((wr=true\/wr'=true)->k∉fp'):=by
    intro k hk;have:=e1 k hk;split at this
    ·cases this
    ·rename_i hw
     refine⟨(λhh=>by rw[(within_iff _ _ _).2 hh]at hw;cases hw),λhor=> ?_⟩;have hor:(wr||wr')=true:=by rw[Bool.or_eq_true];exact hor
     rw[hor]at this;simp only[Bool.not_eq_true']at this;intro hm;rw[(mem_iff _ _).2 hm]at this;cases this
   have c2:∀k,lo<=k->k<lo+n->k∉fp':=by
    intro k h1 h2 hm;have:=e k (news k h1 h2);rw[(mem_iff _ _).2 hm]at this;cases this
   refine⟨λk hk hT=> ?_,λhw k hk=>Classical.byContradiction λh=>(c1 k hk).2 (.inl hw) (x1 k h),λk h1 h2=>⟨Classical.byContradiction λh=>c2 k h1 h2 (x1 k h),λhT=> ?_⟩⟩
   ·rcases x2 k hT with⟨w1,w2⟩|w
    ·exact(c1 k hk).2 (.inr w1) w2
    ·exact(c1 k hk).1 w
   ·rcases x2 k hT with⟨w1,w2⟩|w
    ·exact c2 k h1 h2 w2
    ·omega
  ·cases e
 |opw i fp' ws' lo' hi'=>
  obtain⟨x1,x2,x3,x4,x5⟩:=hx;unfold okPair at e;simp only at e;split at e
  ·rename_i e1
   rw[all1_iff]at e e1
   have c1:∀k∈fp,¬(lo'<=k/\k<hi')/\k∉ws'/\(wr=true->k∉fp'):=by
    intro k hk;have:=e1 k hk;split at this
    ·cases this
    ·rename_i hw
     rw[Bool.or_eq_false_iff]at hw;refine⟨(λhh=>by rw[(within_iff _ _ _).2 hh]at hw;cases hw.1),(λhm=>by rw[(mem_iff _ _).2 hm]at hw;cases hw.2),λhor hm=> ?_⟩;rw[hor,(mem_iff _ _).2 hm]at this;cases this
   have c2:∀k,lo<=k->k<lo+n->k∉fp':=by
    intro k h1 h2 hm;have:=e k (news k h1 h2);rw[(mem_iff _ _).2 hm]at this;cases this
   refine⟨λk hk hT=> ?_,λhw k hk=>Classical.byContradiction λh=>(c1 k hk).2.2 hw (x1 k h),λk h1 h2=>⟨Classical.byContradiction λh=>c2 k h1 h2 (x1 k h),λhT=> ?_⟩⟩
   ·rcases x2 k hT with w|w
    ·exact(c1 k hk).2.1 w
    ·exact(c1 k hk).1 w
   ·rcases x2 k hT with w|w
    ·exact c2 k h1 h2 (x5 k w)
    ·omega
  ·cases e
 |call i d d'=>
  obtain⟨rfl,rfl⟩:=hx;unfold okPair at e;simp only at e;split at e
  ·rename_i e1
   rw[all1_iff]at e e1
   have c1:∀k∈fp,x.d.get k=x.d'.get k/\(wr=true->x.d.get k=none):=by
    intro k hk;have:=e1 k hk;split at this
    ·rename_i hb
     refine⟨blkEq_sound hb,λhw=> ?_⟩;rw[hw]at this;exact(isNo_iff _).1 this
    ·cases this
   refine⟨λk hk hT=>hT (c1 k hk).1.symm,λhw k hk=>(c1 k hk).2 hw,λk h1 h2=> ?_⟩;have:=e k (news k h1 h2);split at this
   ·rename_i hb
    exact⟨(isNo_iff _).1 hb,λhT=>hT (((isNo_iff _).1 this).trans ((isNo_iff _).1 hb).symm)⟩
   ·cases this
  ·cases e
theorem apart_of {x y:Ev} {fp ws:List Nat} {lo hi:Nat} (y1:∀k,y.d.get k≠none->k∈fp) (y2:∀k,y.T k->k∈ws\/(lo<=k/\k<hi)) (a:∀k∈fp,¬x.T k) (b:∀k∈ws,¬x.T k/\x.d.get k=none) (c:∀k,lo<=k->k<hi->x.d.get k=none/\¬x.T k):Apart x y:=
 ⟨λk hk=>Classical.byContradiction λh=>a k (y1 k h) hk,λk hk=>(y2 k hk).elim (λw=>(b k w).2) (λw=>(c k w.1 w.2).1),λk hk hk2=>(y2 k hk2).elim (λw=>(b k w).1 hk) (λw=>(c k w.1 w.2).2 hk)⟩
theorem okPair_sound {r:Rec} {x y:Ev} {j:Nat} {fp:List Nat} {wr:Bool} {lo hi:Nat} (hx:RecOf r x) (hy:RecOf (.op j fp wr lo hi) y) (hlh:lo<=hi) (hle:x.d'.next<=lo) (e:okPair fp wr (span lo (hi-lo)) r=true):Apart x y:=by
 obtain⟨y1,y2,y3,y4⟩:=hy;obtain⟨a,b,c⟩:=okPair_facts hx hle e;rw[show lo+(hi-lo)=hi by omega]at c;cases wr with
 |true=>exact apart_of (ws:=fp) y1 (λk hk=>(y2 k hk).imp (·.2) id) a (λk hk=>⟨a k hk,b rfl k hk⟩) c
 |false=>exact apart_of (ws:=[]) y1 (λk hk=>(y2 k hk).elim (λw=>by cases w.1) .inr) a (λk hk=>by cases hk) c
theorem okPairW_sound {r:Rec} {x y:Ev} {j:Nat} {fp ws:List Nat} {lo hi:Nat} (hx:RecOf r x) (hy:RecOf (.opw j fp ws lo hi) y) (hlh:lo<=hi) (hle:x.d'.next<=lo) (e:okPair fp false (span lo (hi-lo)) r=true) (e2:okPair ws true (span lo (hi-lo)) r=true):Apart x y:=by
 obtain⟨y1,y2,y3,y4,y5⟩:=hy;obtain⟨a,b,c⟩:=okPair_facts hx hle e;obtain⟨a2,b2,c2⟩:=okPair_facts hx hle e2;rw[show lo+(hi-lo)=hi by omega]at c;exact apart_of y1 y2 a (λk hk=>⟨a2 k hk,b2 rfl k hk⟩) c
theorem okPairs_sound {ahead:Bits} {fp:List Nat} {wr:Bool} {news:List Nat}:∀{rs:List Rec},okPairs ahead fp wr news rs=true->∀r∈rs,recIdx r∈ahead\/okPair fp wr news r=true
 |[],_,r,hr=>by cases hr
 |x::rs,e,r,hr=>by
  unfold okPairs at e;split at e
  ·rename_i h1
   rcases List.mem_cons.1 hr with rfl|hr
   ·exact .inr h1
   ·exact okPairs_sound e r hr
  ·split at e
   ·rename_i h1
    rcases List.mem_cons.1 hr with rfl|hr
    ·exact .inl h1
    ·exact okPairs_sound e r hr
   ·cases e
theorem hides_sound {ahead:Bits}:∀{rs:List Rec} {hid:List Nat},hides ahead rs=some hid->∀r∈rs,recIdx r∈ahead\/∀x,RecOf r x->∀k,x.T k->k∈hid
 |[],_,_,r,hr=>by cases hr
 |x::rs,hid,e,r,hr=>by
  unfold hides at e;split at e
  ·cases e
  ·rename_i l hl
   have ih:=hides_sound hl;split at e
   ·rename_i h1
    cases e;rcases List.mem_cons.1 hr with rfl|hr
    ·exact .inl h1
    ·exact ih r hr
   ·cases x with
    |op i fp wr lo hi=>
     simp only at e;cases e;rcases List.mem_cons.1 hr with rfl|hr
     ·refine .inr λx hx k hk=> ?_
      simp only[List.mem_append];rcases hx.2.1 k hk with⟨w1,w2⟩|w
      ·exact .inl (.inr (by rw[w1];exact w2))
      ·exact .inl (.inl ((mem_span _ _ _).2 (by omega)))
     ·exact(ih r hr).imp id λh x hx k hk=>List.mem_append_right _ (h x hx k hk)
    |opw i fp ws lo hi=>
     simp only at e;cases e;rcases List.mem_cons.1 hr with rfl|hr
     ·refine .inr λx hx k hk=> ?_
      simp only[List.mem_append];rcases hx.2.1 k hk with w|w
      ·exact .inl (.inr w)
      ·exact .inl (.inl ((mem_span _ _ _).2 (by omega)))
     ·exact(ih r hr).imp id λh x hx k hk=>List.mem_append_right _ (h x hx k hk)
    |call i d d'=>cases e
theorem looks_sound {ahead:Bits} {d d':Heap}:∀{rs:List Rec},looks ahead d d' rs=true->∀r∈rs,recIdx r∈ahead\/∀x,RecOf r x->∀k,x.d.get k≠none->d.get k=d'.get k
 |[],_,r,hr=>by cases hr
 |x::rs,e,r,hr=>by
  unfold looks at e;split at e
  ·rename_i h1
   rcases List.mem_cons.1 hr with rfl|hr
   ·exact .inl h1
   ·exact looks_sound e r hr
  ·cases x with
   |op i fp wr lo hi=>
    simp only at e;rw[Bool.and_eq_true,all1_iff]at e;rcases List.mem_cons.1 hr with rfl|hr
    ·exact .inr λx hx k hk=>blkEq_sound (e.1 k (hx.1 k hk))
    ·exact looks_sound e.2 r hr
   |opw i fp ws lo hi=>
    simp only at e;rw[Bool.and_eq_true,all1_iff]at e;rcases List.mem_cons.1 hr with rfl|hr
    ·exact .inr λx hx k hk=>blkEq_sound (e.1 k (hx.1 k hk))
    ·exact looks_sound e.2 r hr
   |call i d d'=>cases e
theorem call_apart {ahead:Bits} {hid:List Nat} {rs:List Rec} {h d d':Heap} {x:Ev} {r:Rec} {v:CV} (hd:d=without h hid) (h1:hides ahead rs=some hid) (h2:looks ahead d d' rs=true) (h3:∀k∈hid,d'.get k=none) (hr:r∈rs) (hx:RecOf r x):
  recIdx r∈ahead\/Apart x ⟨true,v,d,d'⟩:=by
 rcases hides_sound h1 r hr with h|g1
 ·exact .inl h
 ·rcases looks_sound h2 _ hr with h|g3
  ·exact .inl h
  ·right
   have dn:∀k,k∈hid->d.get k=none:=by
    intro k hk;rw[hd,without_get,if_pos hk]
   refine⟨λk hk=>dn k (g1 x hx k hk),λk hk=> ?_,λk hk hk2=> ?_⟩
   ·rcases Classical.em (x.d.get k=none)with h|h
    ·exact h
    ·exact absurd (g3 x hx k h).symm hk
   ·have:=g1 x hx k hk
    exact hk2 ((h3 k this).trans (dn k this).symm)
def Tri (P:Program) (E:Env) (o:Oper) (tmps:Tm) (e:Ev):Prop:=
 ∀(ρ:Rho) (a:Act) (w:World),HR ρ e.d w->GR E ρ e.d->(∀x∈o.op.operands,VR ρ (cvOf E.globs tmps x) (a.eval x))->∀(next:Act->World->Prop) (Q:Exit->Act->World->Prop),
  (∀x ρ' w',J ρ e.d w ρ' e.d' w'->VR ρ' e.v x->next (a.put o.dst x) w')->∀ro:Option Nat,o.wpIn (FW ro) 0 P a w next Q
structure Fact (P:Program) (E:Env) (all:List Oper) (o:Oper) (tm:Tm) (hp:Heap) (e:Ev) (tm':Tm) (hp':Heap):Prop where
 guard:guardOn all tm o=some e.on
 tri:e.on=true->Tri P E o tm e
 off:e.on=false->e.v= .tup []/\e.Silent/\e.d'.next=e.d.next
 next:e.d.next=hp.next
 next':hp'.next=e.d'.next
 le:hp.next<=hp'.next
 sub:∀k b,e.d.get k=some b->hp.get k=some b
 get:∀k,(e.T k->hp'.get k=e.d'.get k)/\(¬e.T k->hp'.get k=hp.get k)
 tmps:tm'=putTmp tm o.dst e.v
def RecsOk (i:Nat) (ev0:Nat->Ev) (recs:List Rec):Prop:=∀j,j<i->(ev0 j).Silent\/∃r∈recs,recIdx r=j/\RecOf r (ev0 j)
def DrawRes (P:Program) (E:Env) (bs:List Bits) (all:List Oper) (i:Nat) (ev0:Nat->Ev) (tmps:Tm) (h:Heap) (r:R):Prop:=
 ∃(ev:Nat->Ev) (tm:Nat->Tm) (hp:Nat->Heap),(∀j,j<i->ev j=ev0 j)/\tm i=tmps/\hp i=h/\r= .code .normal (tm all.length) (hp all.length)/\
  ∀j o,i<=j->all[j]? =some o->Fact P E all o (tm j) (hp j) (ev j) (tm (j+1)) (hp (j+1))/\∀j',j'<j->j'∈(bs[j]?).getD Bits.nil\/Apart (ev j') (ev j)
theorem draw_cons {bs:List Bits} {all:List Oper} {i:Nat} {ev0:Nat->Ev} {tmps tmps':Tm} {h h':Heap} {r:R} {o:Oper} {e:Ev} (ho:all[i]? =some o)
  (hf:Fact P E all o tmps h e tmps' h') (hp:∀j',j'<i->j'∈(bs[i]?).getD Bits.nil\/Apart (ev0 j') e)
  (ih:DrawRes P E bs all (i+1) (λj=>if j=i then e else ev0 j) tmps' h' r):DrawRes P E bs all i ev0 tmps h r:=by
 obtain⟨ev,tm,hp0,h1,h2,h3,h4,h5⟩:=ih;have hlt:i<all.length:=(List.getElem?_eq_some_iff.1 ho).1;have hi:ev i=e:=by rw[h1 i (Nat.lt_succ_self _)];simp
 have hj:∀j,j<i->ev j=ev0 j:=λj hj=>by
  rw[h1 j (by omega)];have:j≠i:=by omega
  simp[this]
 refine⟨ev,λj=>if j=i then tmps else tm j,λj=>if j=i then h else hp0 j,hj,by simp,by simp,?_,?_⟩
 ·have hne:all.length≠i:=by omega
  simp only[hne,if_false];exact h4
 ·intro j oj hij hoj
  by_cases e0:j=i
  ·subst e0
   rw[ho]at hoj;cases hoj;have e1:j+1≠j:=by omega
   refine⟨?_,λj' hj'=> ?_⟩
   ·simp only[if_true,e1,if_false,hi,h2,h3]
    exact hf
   ·rw[hi,hj j' hj']
    exact hp j' hj'
  ·have e1:j+1≠i:=by omega
   have:=h5 j oj (by omega) hoj;simp only[e0,e1,if_false];exact this
theorem recs_cons {i:Nat} {ev0:Nat->Ev} {recs:List Rec} {e:Ev} {r:Rec} (hr:RecsOk i ev0 recs) (hi:recIdx r=i) (h:RecOf r e):RecsOk (i+1) (λj=>if j=i then e else ev0 j) (r::recs):=by
 intro j hj;by_cases e0:j=i
 ·subst e0
  exact .inr ⟨r,by simp,hi,by simpa using h⟩
 ·simp only[e0,if_false]
  rcases hr j (by omega)with h1|⟨r',h1,h2,h3⟩
  ·exact .inl h1
  ·exact .inr ⟨r',List.mem_cons_of_mem _ h1,h2,h3⟩
theorem recs_silent {i:Nat} {ev0:Nat->Ev} {recs:List Rec} {e:Ev} (hr:RecsOk i ev0 recs) (h:e.Silent):RecsOk (i+1) (λj=>if j=i then e else ev0 j) recs:=by
 intro j hj;by_cases e0:j=i
 ·subst e0
  exact .inl (by simpa using h)
 ·simp only[e0,if_false]
  exact hr j (by omega)
theorem silent_empty (n:Nat) (on:Bool) (v:CV):(⟨on,v,⟨.leaf,n,none⟩,⟨.leaf,n,none⟩⟩:Ev).Silent:=λk=>⟨Tree.get_leaf k,Tree.get_leaf k⟩
theorem next_silent {bs:List Bits} {all r:List Oper} {i:Nat} {recs:List Rec} {ev0:Nat->Ev} {tmps:Tm} {h d':Heap} {o:Oper} {v:CV} {ws:List Nat} {run0:Run} (ho:all[i]? =some o) (hg:guardOn all tmps o=some true)
  (hs:run0 (.draw bs all r (i+1) recs) (putTmp tmps o.dst v) h≠ .stop) (hrec:RecsOk i ev0 recs) (hnx:∀j,j<i->(ev0 j).d'.next<=h.next)
  (htouch:Touch ws (only h []) d') (hws:∀k∈ws,k∈([]:List Nat)) (hdn:d'.next=h.next) (htri:Tri P E o tmps ⟨true,v,only h [],d'⟩)
  (ih:∀(e:Ev) recs' tmps' h',run0 (.draw bs all r (i+1) recs') tmps' h'≠ .stop->RecsOk (i+1) (λj=>if j=i then e else ev0 j) recs'->(∀j,j<i+1->(if j=i then e else ev0 j).d'.next<=h'.next)->
   DrawRes P E bs all (i+1) (λj=>if j=i then e else ev0 j) tmps' h' (run0 (.draw bs all r (i+1) recs') tmps' h')):
  DrawRes P E bs all i ev0 tmps h (run0 (.draw bs all r (i+1) recs) (putTmp tmps o.dst v) h):=by
 have hsil:(⟨true,v,only h [],d'⟩:Ev).Silent:=by
  intro k;have h1:(only h []).get k=none:=by rw[only_get];simp
  refine⟨h1,?_⟩;show d'.get k=none;rw[htouch.same k (λhk=>by cases hws k hk) (by rw[only_next];omega),h1]
 refine draw_cons (e:=⟨true,v,only h [],d'⟩) ho ⟨hg,λ_=>htri,(λe=>by cases e),only_next _ _,hdn.symm,Nat.le_refl _,λk b hb=> ?_,λk=>⟨λhT=>absurd ((hsil k).2.trans (hsil k).1.symm) hT,λ_=>rfl⟩,rfl⟩ (λj' _=> .inr (Apart.silentR hsil)) ?_
 ·rw[(hsil k).1]at hb;cases hb
 ·refine ih _ _ _ _ hs (recs_silent hrec hsil) λj hj=> ?_
  by_cases e0:j=i
  ·rw[if_pos e0];show d'.next<=h.next;omega
  ·rw[if_neg e0];exact hnx j (by omega)
theorem next_core {bs:List Bits} {all r:List Oper} {i:Nat} {recs:List Rec} {ev0:Nat->Ev} {tmps:Tm} {h d':Heap} {o:Oper} {v:CV} {fp ws:List Nat} {rec:Rec} {run0:Run} (ho:all[i]? =some o) (hg:guardOn all tmps o=some true)
  (hs:run0 (.draw bs all r (i+1) (rec::recs)) (putTmp tmps o.dst v) (back h d' (fp++span h.next (d'.next-h.next)))≠ .stop) (hrec:RecsOk i ev0 recs) (hnx:∀j,j<i->(ev0 j).d'.next<=h.next)
  (htouch:Touch ws (only h fp) d') (hws:∀k∈ws,k∈fp) (hidx:recIdx rec=i) (hro:RecOf rec ⟨true,v,only h fp,d'⟩) (hok:∀r∈recs,recIdx r∈((nth bs i).getD Bits.nil)\/∀x,RecOf r x->x.d'.next<=h.next->Apart x ⟨true,v,only h fp,d'⟩) (htri:Tri P E o tmps ⟨true,v,only h fp,d'⟩)
  (ih:∀(e:Ev) recs' tmps' h',run0 (.draw bs all r (i+1) recs') tmps' h'≠ .stop->RecsOk (i+1) (λj=>if j=i then e else ev0 j) recs'->(∀j,j<i+1->(if j=i then e else ev0 j).d'.next<=h'.next)->
   DrawRes P E bs all (i+1) (λj=>if j=i then e else ev0 j) tmps' h' (run0 (.draw bs all r (i+1) recs') tmps' h')):
  DrawRes P E bs all i ev0 tmps h (run0 (.draw bs all r (i+1) (rec::recs)) (putTmp tmps o.dst v) (back h d' (fp++span h.next (d'.next-h.next)))):=by
 have hnext:h.next<=d'.next:=by have:=htouch.next;rw[only_next]at this;exact this
 have hbn:(back h d' (fp++span h.next (d'.next-h.next))).next=d'.next:=back_next _ _ _;refine draw_cons (e:=⟨true,v,only h fp,d'⟩) ho ⟨hg,λ_=>htri,(λe=>by cases e),only_next _ _,hbn,by rw[hbn];exact hnext,λk b hb=> ?_,λk=>⟨λhT=> ?_,λhT=> ?_⟩,rfl⟩ (λj' hj'=> ?_) ?_
 ·have hb:(only h fp).get k=some b:=hb
  rw[only_get]at hb;split at hb
  ·exact hb
  ·cases hb
 ·rw[back_get,if_pos]
  rw[List.mem_append,mem_span];rcases Classical.em (h.next<=k/\k<d'.next)with h1|h1
  ·exact .inr (by omega)
  ·exact .inl (hws k (Classical.not_not.1 λhn=>hT (htouch.same k hn (by rw[only_next];exact h1))))
 ·have hT:d'.get k=(only h fp).get k:=Classical.not_not.1 hT
  rw[back_get];split
  ·rename_i hin
   rw[hT,only_get];split
   ·rfl
   ·rename_i hnf
    rw[List.mem_append,mem_span]at hin;rcases hin with hin|hin
    ·exact absurd hin hnf
    ·have h1:d'.get k≠none:=htouch.made k (by rw[only_next];omega) (by omega)
     have h2:(only h fp).get k=none:=by rw[only_get,if_neg hnf]
     exact absurd (hT.trans h2) h1
  ·rfl
 ·rcases hrec j' hj' with h1|⟨r',h1,h2,h3⟩
  ·exact .inr (Apart.silentL h1)
  ·rcases hok r' h1 with h4|h4
   ·left;rw[<-nth_eq,<-h2];exact h4
   ·exact .inr (h4 _ h3 (hnx j' hj'))
 ·refine ih _ _ _ _ hs (recs_cons hrec hidx hro) λj hj=> ?_
  rw[hbn];by_cases e0:j=i
  ·rw[if_pos e0];exact Nat.le_refl _
  ·rw[if_neg e0]
   exact Nat.le_trans (hnx j (by omega)) hnext
theorem touch_own {fp ws:List Nat} {h d':Heap} {v:CV} (t:Touch ws (only h fp) d'):(∀k,(⟨true,v,only h fp,d'⟩:Ev).d.get k≠none->k∈fp)/\∀k,(⟨true,v,only h fp,d'⟩:Ev).T k->k∈ws\/(h.next<=k/\k<d'.next):=
 ⟨λk hk=>Classical.byContradiction λh1=>hk (show(only h fp).get k=none by rw[only_get,if_neg h1]),λk hk=>by
  rcases Classical.em (h.next<=k/\k<d'.next)with h1|h1
  ·exact .inr h1
  ·exact .inl (Classical.not_not.1 λhn=>hk (t.same k hn (by rw[only_next];exact h1)))⟩
theorem next_facts {bs:List Bits} {all r:List Oper} {i:Nat} {recs:List Rec} {ev0:Nat->Ev} {tmps:Tm} {h:Heap} {o:Oper} {fp:List Nat} {x:Option (CV×Heap)} {run0:Run} (ho:all[i]? =some o) (hg:guardOn all tmps o=some true)
  (hs:dNext run0 bs all r i recs o.dst tmps h fp (wrOf o.op) x≠ .stop) (hrec:RecsOk i ev0 recs) (hnx:∀j,j<i->(ev0 j).d'.next<=h.next)
  (ht:∀p,x=some p->Touch (match wrOf o.op with|true=>fp|false=>[]) (only h fp) p.2) (htri:∀p,x=some p->Tri P E o tmps ⟨true,p.1,only h fp,p.2⟩)
  (ih:∀(e:Ev) recs' tmps' h',run0 (.draw bs all r (i+1) recs') tmps' h'≠ .stop->RecsOk (i+1) (λj=>if j=i then e else ev0 j) recs'->(∀j,j<i+1->(if j=i then e else ev0 j).d'.next<=h'.next)->
   DrawRes P E bs all (i+1) (λj=>if j=i then e else ev0 j) tmps' h' (run0 (.draw bs all r (i+1) recs') tmps' h')):
  DrawRes P E bs all i ev0 tmps h (dNext run0 bs all r i recs o.dst tmps h fp (wrOf o.op) x):=by
 unfold dNext at hs ⊢;cases x with
 |none=>exact absurd rfl hs
 |some p=>
  obtain⟨v,d'⟩:=p;have htouch:=ht _ rfl;have htri:=htri _ rfl;simp only at hs ⊢ htouch htri;have hnext:h.next<=d'.next:=by have:=htouch.next;rw[only_next]at this;exact this
  cases hq:isNil fp&&Nat.beq d'.next h.next with
  |true=>
   rw[hq]at hs;simp only at hs ⊢;rw[Bool.and_eq_true]at hq;have hfp:fp=[]:=by cases fp with|nil=>rfl|cons _ _=>simp[isNil]at hq
   subst hfp;exact next_silent ho hg hs hrec hnx htouch (λk hk=>by cases hw:wrOf o.op<;>rw[hw]at hk<;>exact hk) (Nat.eq_of_beq_eq_true hq.2) htri ih
  |false=>
   rw[hq]at hs;simp only at hs ⊢;cases hok:okPairs ((nth bs i).getD Bits.nil) fp (wrOf o.op) (span h.next (d'.next-h.next)) recs with
   |false=>rw[hok]at hs;exact absurd rfl hs
   |true=>
    rw[hok]at hs;simp only at hs ⊢;obtain⟨t1,t2⟩:=touch_own (v:=v) htouch
    have hro:RecOf (.op i fp (wrOf o.op) h.next d'.next) ⟨true,v,only h fp,d'⟩:=⟨t1,λk hk=>(t2 k hk).imp (λw=>by
     cases hw:wrOf o.op with
     |true=>rw[hw]at w;exact⟨rfl,w⟩
     |false=>rw[hw]at w;cases w) id,only_next _ _,rfl⟩
    exact next_core (ws:=match wrOf o.op with|true=>fp|false=>[]) ho hg hs hrec hnx htouch (λk hk=>by
     cases hw:wrOf o.op with
     |true=>rw[hw]at hk;exact hk
     |false=>rw[hw]at hk;cases hk) rfl hro (λr hr=>(okPairs_sound hok r hr).imp id λh4 x hx hle=>okPair_sound hx hro hnext hle h4) htri ih
theorem nextW_facts {bs:List Bits} {all r:List Oper} {i:Nat} {recs:List Rec} {ev0:Nat->Ev} {tmps:Tm} {h:Heap} {o:Oper} {fp ws:List Nat} {x:Option (CV×Heap)} {run0:Run} (ho:all[i]? =some o) (hg:guardOn all tmps o=some true)
  (hs:dNextW run0 bs all r i recs o.dst tmps h fp ws x≠ .stop) (hrec:RecsOk i ev0 recs) (hnx:∀j,j<i->(ev0 j).d'.next<=h.next)
  (hws:∀k∈ws,k∈fp) (ht:∀p,x=some p->Touch ws (only h fp) p.2) (htri:∀p,x=some p->Tri P E o tmps ⟨true,p.1,only h fp,p.2⟩)
  (ih:∀(e:Ev) recs' tmps' h',run0 (.draw bs all r (i+1) recs') tmps' h'≠ .stop->RecsOk (i+1) (λj=>if j=i then e else ev0 j) recs'->(∀j,j<i+1->(if j=i then e else ev0 j).d'.next<=h'.next)->
   DrawRes P E bs all (i+1) (λj=>if j=i then e else ev0 j) tmps' h' (run0 (.draw bs all r (i+1) recs') tmps' h')):
  DrawRes P E bs all i ev0 tmps h (dNextW run0 bs all r i recs o.dst tmps h fp ws x):=by
 unfold dNextW at hs ⊢;cases x with
 |none=>exact absurd rfl hs
 |some p=>
  obtain⟨v,d'⟩:=p;have htouch:=ht _ rfl;have htri:=htri _ rfl;simp only at hs ⊢ htouch htri;have hnext:h.next<=d'.next:=by have:=htouch.next;rw[only_next]at this;exact this
  cases hq:isNil fp&&Nat.beq d'.next h.next with
  |true=>
   rw[hq]at hs;simp only at hs ⊢;rw[Bool.and_eq_true]at hq;have hfp:fp=[]:=by cases fp with|nil=>rfl|cons _ _=>simp[isNil]at hq
   subst hfp;exact next_silent ho hg hs hrec hnx htouch hws (Nat.eq_of_beq_eq_true hq.2) htri ih
  |false=>
   rw[hq]at hs;simp only at hs ⊢;cases hok:okPairs ((nth bs i).getD Bits.nil) fp false (span h.next (d'.next-h.next)) recs&&okPairs ((nth bs i).getD Bits.nil) ws true (span h.next (d'.next-h.next)) recs with
   |false=>rw[hok]at hs;exact absurd rfl hs
   |true=>
    rw[hok]at hs;simp only at hs ⊢;rw[Bool.and_eq_true]at hok;obtain⟨t1,t2⟩:=touch_own (v:=v) htouch;have hro:RecOf (.opw i fp ws h.next d'.next) ⟨true,v,only h fp,d'⟩:=⟨t1,t2,only_next _ _,rfl,hws⟩;exact next_core ho hg hs hrec hnx htouch hws rfl hro (λr hr=>(okPairs_sound hok.1 r hr).elim .inl λh4=>(okPairs_sound hok.2 r hr).imp id λh5 x hx hle=>okPairW_sound hx hro hnext hle h4 h5) htri ih
end
end Go.CM

noncomputable section
namespace Go.CM
section
variable {P:Program} {E:Env}
theorem tri_ok {o:Oper} {tmps:Tm} {e:Ev} (h:∀(ρ:Rho) (a:Act) (w:World),HR ρ e.d w->(∀x∈o.op.operands,VR ρ (cvOf E.globs tmps x) (a.eval x))->OpOk P o a ρ e.d w e.v e.d'):Tri P E o tmps e:=by
 intro ρ a w hr _ hop next Q hn ro;obtain⟨x,w1,ρ1,g1,g2,g3⟩:=h ρ a w hr hop;exact wp_of_gives g1 (hn x ρ1 w1 g2 g3)
theorem call_facts {bs:List Bits} {all r:List Oper} {i:Nat} {recs:List Rec} {ev0:Nat->Ev} {tmps:Tm} {h:Heap} {o:Oper} {hid:List Nat} {x:R} {run0:Run} (ho:all[i]? =some o) (hg:guardOn all tmps o=some true)
  (hs:dCall run0 bs all r i recs o.dst tmps h (without h hid) hid x≠ .stop) (hrec:RecsOk i ev0 recs) (hnx:∀j,j<i->(ev0 j).d'.next<=h.next) (hhid:hides ((nth bs i).getD Bits.nil) recs=some hid)
  (htri:∀v d',x= .val v d'->Tri P E o tmps ⟨true,v,without h hid,d'⟩)
  (ih:∀(e:Ev) recs' tmps' h',run0 (.draw bs all r (i+1) recs') tmps' h'≠ .stop->RecsOk (i+1) (λj=>if j=i then e else ev0 j) recs'->(∀j,j<i+1->(if j=i then e else ev0 j).d'.next<=h'.next)->
   DrawRes P E bs all (i+1) (λj=>if j=i then e else ev0 j) tmps' h' (run0 (.draw bs all r (i+1) recs') tmps' h')):
  DrawRes P E bs all i ev0 tmps h (dCall run0 bs all r i recs o.dst tmps h (without h hid) hid x):=by
 unfold dCall at hs ⊢;cases x with
 |val v d'=>
  have htri:=htri v d' rfl;simp only at hs ⊢;cases hq:Nat.ble h.next d'.next&&(looks ((nth bs i).getD Bits.nil) (without h hid) d' recs&&all1 hid λk=>isNo (d'.get k))with
  |false=>rw[hq]at hs;exact absurd rfl hs
  |true=>
   rw[hq]at hs;simp only at hs ⊢;rw[Bool.and_eq_true,Bool.and_eq_true,all1_iff]at hq;obtain⟨q1,q2,q3⟩:=hq;have hle:=Nat.le_of_ble_eq_true q1;have hno:∀k∈hid,d'.get k=none:=λk hk=>(isNo_iff _).1 (q3 k hk);have hbn:(back d' ⟨h.t,d'.next,none⟩ hid).next=d'.next:=by rw[back_next]
   have hbg:∀k,(back d' ⟨h.t,d'.next,none⟩ hid).get k=if k∈hid then h.get k else d'.get k:=λk=>back_get _ _ _ _
   refine draw_cons (e:=⟨true,v,without h hid,d'⟩) ho ⟨hg,λ_=>htri,(λe=>by cases e),without_next _ _,hbn,by rw[hbn];exact hle,λk b hb=> ?_,λk=>⟨λhT=> ?_,λhT=> ?_⟩,rfl⟩ (λj' hj'=> ?_) ?_
   ·have hb:(without h hid).get k=some b:=hb
    rw[without_get]at hb;split at hb
    ·cases hb
    ·exact hb
   ·rw[hbg]
    split
    ·rename_i hk
     have h1:(without h hid).get k=none:=by rw[without_get,if_pos hk]
     exact absurd ((hno k hk).trans h1.symm) hT
    ·rfl
   ·rw[hbg]
    split
    ·rfl
    ·rename_i hk
     have hT:d'.get k=(without h hid).get k:=Classical.not_not.1 hT;rw[hT,without_get,if_neg hk]
   ·rcases hrec j' hj' with h1|⟨r',h1,h2,h3⟩
    ·exact .inr (Apart.silentL h1)
    ·rcases call_apart (v:=v) rfl hhid q2 hno h1 h3 with h4|h4
     ·left;rw[<-nth_eq,<-h2];exact h4
     ·right;exact h4
   ·refine ih _ _ _ _ hs (recs_cons (r:= .call i (without h hid) d') hrec rfl ⟨rfl,rfl⟩) λj hj=> ?_
    rw[hbn];by_cases e0:j=i
    ·rw[if_pos e0];exact Nat.le_refl _
    ·rw[if_neg e0]
     exact Nat.le_trans (hnx j (by omega)) hle
 |pan v d'=>exact absurd rfl hs
 |code _ _ _=>exact absurd rfl hs
 |stop=>exact absurd rfl hs
theorem draw_facts (W:EnvW P E) {bs:List Bits} {all:List Oper}:∀(m:Nat),(∀m',m'<m->Snd P E m')->∀(rest:List Oper) (i:Nat) (recs:List Rec) (tmps:Tm) (h:Heap) (ev0:Nat->Ev),
  run E m (.draw bs all rest i recs) tmps h≠ .stop->all.drop i=rest->RecsOk i ev0 recs->(∀j,j<i->(ev0 j).d'.next<=h.next)->
  DrawRes P E bs all i ev0 tmps h (run E m (.draw bs all rest i recs) tmps h)
 |0,_,_,_,_,_,_,_,hs,_,_,_=>absurd rfl hs
 |m+1,S,rest,i,recs,tmps,h,ev0,hs,hk,hrec,hnx=>by
  have e:run E (m+1) (.draw bs all rest i recs) tmps h=sDraw E (run E m) bs all rest i recs tmps h:=rfl;rw[e]at hs ⊢;unfold sDraw at hs ⊢;cases rest with
  |nil=>
   simp only
   have hlen:all.length<=i:=by
    have:=congrArg List.length hk;simp at this;omega
   refine⟨ev0,λ_=>tmps,λ_=>h,λ_ _=>rfl,rfl,rfl,rfl,λj o hij ho=> ?_⟩;have:=(List.getElem?_eq_some_iff.1 ho).1;omega
  |cons o r=>
   obtain⟨ho,hk2⟩:=drop_cons hk
   have ih:∀(e:Ev) recs' tmps' h',run E m (.draw bs all r (i+1) recs') tmps' h'≠ .stop->RecsOk (i+1) (λj=>if j=i then e else ev0 j) recs'->(∀j,j<i+1->(if j=i then e else ev0 j).d'.next<=h'.next)->
     DrawRes P E bs all (i+1) (λj=>if j=i then e else ev0 j) tmps' h' (run E m (.draw bs all r (i+1) recs') tmps' h'):=
    λe recs' tmps' h' h1 h2 h3=>draw_facts W m (λm' hm'=>S m' (by omega)) r (i+1) recs' tmps' h' _ h1 hk2 h2 h3
   simp only at hs ⊢;cases hg:guardOn all tmps o with
   |none=>rw[hg]at hs;exact absurd rfl hs
   |some b=>
    rw[hg]at hs;cases b with
    |false=>
     simp only at hs ⊢;have hsil:=silent_empty h.next false (.tup []);refine draw_cons (h':=h) (e:=⟨false,.tup [],⟨.leaf,h.next,none⟩,⟨.leaf,h.next,none⟩⟩) ho ⟨hg,(λe=>by cases e),λ_=>⟨rfl,hsil,rfl⟩,rfl,rfl,Nat.le_refl _,λk b hb=> ?_,λk=>⟨λhT=>absurd rfl hT,λ_=>rfl⟩,rfl⟩ (λj' _=> .inr (Apart.silentR hsil)) ?_
     ·rw[(hsil k).1]at hb;cases hb
     ·refine ih _ _ _ _ hs (recs_silent hrec hsil) λj hj=> ?_
      by_cases e0:j=i
      ·rw[if_pos e0];exact Nat.le_refl _
      ·rw[if_neg e0];exact hnx j (by omega)
    |true=>
     simp only at hs ⊢
     have plain:∀(hs:dNext (run E m) bs all r i recs o.dst tmps h (fpOf o.op (cvOf E.globs tmps)) (wrOf o.op) (opVal E o.op (cvOf E.globs tmps) (only h (fpOf o.op (cvOf E.globs tmps))))≠ .stop),
       DrawRes P E bs all i ev0 tmps h (dNext (run E m) bs all r i recs o.dst tmps h (fpOf o.op (cvOf E.globs tmps)) (wrOf o.op) (opVal E o.op (cvOf E.globs tmps) (only h (fpOf o.op (cvOf E.globs tmps))))):=λhs=>
      next_facts ho hg hs hrec hnx (λp hp=>opVal_touch (v:=p.1) (h':=p.2) hp) (λp hp=>tri_ok λρ a w hr hop=>op_sound W.ok hr (v:=p.1) (h':=p.2) hp hop) ih
     unfold dOp at hs ⊢;cases hop:o.op with
     |call c=>
      rw[hop]at hs;simp only at hs ⊢;cases hbi:isBuiltin c.callee with
      |some b=>
       rw[hbi]at hs;simp only at hs ⊢;have hbc:=isBuiltin_some hbi;obtain⟨callee,args,tys⟩:=c;simp only at hbc;subst hbc;cases hap:isApp b with
       |false=>
        rw[hap]at hs;simp only at hs ⊢
        have:=next_facts (P:=P) (E:=E) (fp:=fpOf o.op (cvOf E.globs tmps)) (x:=builtinV E (only h (fpOf o.op (cvOf E.globs tmps))) b tys.toList (args.toList.map (cvOf E.globs tmps))) (run0:=run E m) (bs:=bs) (r:=r) ho hg (by rw[hop];exact hs) hrec hnx
         (λp hp=>by rw[hop]at hp ⊢;exact builtin_touch (v:=p.1) (h':=p.2) hp) (λp hp=>tri_ok λρ a w hr hopr=>builtin_sound W.ok hr hop (v:=p.1) (h':=p.2) hp λx hx=>hopr x (by rw[hop];simp[Op.operands,Call.operands];simpa using hx)) ih
        rw[hop]at this;exact this
       |true=>
        rw[hap]at hs;simp only at hs ⊢;have hb:=isApp_true hap;subst hb
        have:=nextW_facts (P:=P) (E:=E) (fp:=fpOf o.op (cvOf E.globs tmps)) (ws:=apWs (args.toList.map (cvOf E.globs tmps))) (x:=builtinV E (only h (fpOf o.op (cvOf E.globs tmps))) .append tys.toList (args.toList.map (cvOf E.globs tmps))) (run0:=run E m) (bs:=bs) (r:=r) ho hg (by rw[hop];exact hs) hrec hnx
         (λk hk=>by
          have:=apWs_sub _ k hk;rw[hop];simpa[fpOf,List.map_map,Function.comp_def]using this)
         (λp hp=>app_touch (v:=p.1) (h':=p.2) hp) (λp hp=>tri_ok λρ a w hr hopr=>builtin_sound W.ok hr hop (v:=p.1) (h':=p.2) hp λx hx=>hopr x (by rw[hop];simp[Op.operands,Call.operands];simpa using hx)) ih
        rw[hop]at this;exact this
      |none=>
       rw[hbi]at hs;simp only at hs ⊢;unfold dHid at hs ⊢;cases hhid:hides ((nth bs i).getD Bits.nil) recs with
       |none=>rw[hhid]at hs;exact absurd rfl hs
       |some hid=>
        rw[hhid]at hs;simp only at hs ⊢;refine call_facts ho hg hs hrec hnx hhid (λv d' hx=> ?_) ih;intro ρ a w hr g hopr next Q hn ro;refine callee_sound W (S m (Nat.lt_succ_self m)) hop hr g hopr hx (by simp) (λv' h' x ρ' w' e0 j hv=> ?_) (λv' h' x ρ' w' e0 j hv=>by cases e0) ro;cases e0;exact hn x ρ' w' j hv
     |_=>
      rw[hop]at hs;simp only at hs ⊢;have:=plain (by rw[hop];exact hs);rw[hop]at this;exact this
end
end Go.CM

noncomputable section
namespace Go.CM
section
variable {α:Type}
open Classical in
noncomputable def last (S:Nat->Bool) (T:Nat->Prop) (v:Nat->α) (b:α):Nat->α
 |0=>b
 |n+1=>if S n=true/\T n then v n else last S T v b n
variable {S S':Nat->Bool} {T:Nat->Prop} {v:Nat->α} {b:α}
theorem last_congr:∀{n:Nat},(∀i,i<n->T i->S i=S' i)->last S T v b n=last S' T v b n
 |0,_=>rfl
 |n+1,h=>by
  have ih:=last_congr (n:=n) λi hi ht=>h i (by omega) ht;simp only[last];by_cases ht:T n
  ·rw[h n (Nat.lt_succ_self _) ht,ih]
  ·rw[if_neg (λhh=>ht hh.2),if_neg (λhh=>ht hh.2),ih]
theorem last_at {i:Nat} (hs:S i=true) (ht:T i):∀{n:Nat},i<n->(∀j,i<j->j<n->S j=true->¬T j)->last S T v b n=v i
 |0,hi,_=>by omega
 |n+1,hi,hl=>by
  simp only[last];by_cases e:i=n
  ·subst e;rw[if_pos ⟨hs,ht⟩]
  ·rw[if_neg (λhh=>hl n (by omega) (Nat.lt_succ_self _) hh.1 hh.2)]
   exact last_at hs ht (by omega) λj h1 h2=>hl j h1 (by omega)
theorem last_chain {X:Nat->α} (h0:X 0=b) {N:Nat} (h1:∀j,j<N->(T j->X (j+1)=v j)/\(¬T j->X (j+1)=X j)):∀{n i:Nat},n<=N->i<=n->last (λj=>decide (j<i)) T v b n=X i
 |0,i,_,hi=>by
  have:i=0:=by omega
  subst this;exact h0.symm
 |n+1,i,hn,hi=>by
  simp only[last];by_cases e:i=n+1
  ·subst e
   have e2:last (λj=>decide (j<n+1)) T v b n=X n:=by
    rw[last_congr (S':=λj=>decide (j<n))]
    ·exact last_chain h0 h1 (by omega) (Nat.le_refl _)
    ·intro j hj _
     simp only[decide_eq_decide];omega
   rw[e2];by_cases ht:T n
   ·rw[if_pos ⟨by simp,ht⟩,(h1 n (by omega)).1 ht]
   ·rw[if_neg (λhh=>ht hh.2),(h1 n (by omega)).2 ht]
  ·rw[if_neg (λhh=>by have:=hh.1;simp only[decide_eq_true_eq]at this;omega)]
   exact last_chain h0 h1 (by omega) (by omega)
theorem last_none:∀{n:Nat},(∀i,i<n->S i=false)->last S T v b n=b
 |0,_=>rfl
 |n+1,h=>by
  simp only[last];rw[if_neg (λhh=>by rw[h n (Nat.lt_succ_self _)]at hh;cases hh.1)];exact last_none λi hi=>h i (by omega)
theorem last_prop {p:α->Prop} (hb:p b):∀{n:Nat},(∀i,i<n->S i=true->T i->p (v i))->p (last S T v b n)
 |0,_=>hb
 |n+1,h=>by
  simp only[last];split
  ·rename_i hh;exact h n (Nat.lt_succ_self _) hh.1 hh.2
  ·exact last_prop hb λi hi=>h i (by omega)
end
theorem bit_nat (j a:Nat):Nat.beq (Nat.land (Nat.shiftRight a j) 1) 1=Nat.testBit a j:=by
 have h1:Nat.land (Nat.shiftRight a j) 1=(a>>>j)%2:=Nat.and_one_is_mod _;rw[h1,Nat.testBit_eq_decide_div_mod_eq,Nat.shiftRight_eq_div_pow,Bool.eq_iff_iff,Nat.beq_eq,decide_eq_true_iff]
theorem or_nat (j a b:Nat):Nat.testBit (Nat.lor a b) j=true↔Nat.testBit a j=true\/Nat.testBit b j=true:=by
 show Nat.testBit (a ||| b) j=true↔_;rw[Nat.testBit_or,Bool.or_eq_true]
theorem one_nat (j k:Nat):Nat.testBit (Nat.shiftLeft 1 k) j=true↔j=k:=by
 show Nat.testBit (1<<<k) j=true↔_;rw[Nat.testBit_shiftLeft];by_cases h:k<=j
 ·simp only[h,decide_true,Bool.true_and,Nat.testBit_one_eq_true_iff_self_eq_zero]
  omega
 ·simp only[h,decide_false,Bool.false_and]
  constructor
  ·intro e;cases e
  ·intro e;omega
theorem bits_mem (j:Nat) (a:Bits):j∈a↔@Nat.testBit a j=true:=
 (Bool.eq_iff_iff.1 (bit_nat j a))
theorem mem_nil (j:Nat):¬j∈Bits.nil:=λh=>by
 have h:Nat.testBit 0 j=true:=(bits_mem j Bits.nil).1 h;rw[Nat.zero_testBit]at h;cases h
theorem mem_or (j:Nat) (a b:Bits):j∈bitsOr a b↔j∈a\/j∈b:=by
 rw[bits_mem,bits_mem,bits_mem];exact or_nat j a b
theorem mem_one (j k:Nat):j∈bitsOne k↔j=k:=by
 rw[bits_mem];exact one_nat j k
theorem mem_aheadOf (bs:List Bits) (j:Nat):∀(es:List Edge),j∈aheadOf bs es↔∃e∈es,Region.binds .any e=true/\(j=e.on\/j∈(bs[e.on]?).getD Bits.nil)
 |[]=>by
  constructor
  ·intro h;exact absurd h (mem_nil j)
  ·rintro⟨e,h,_⟩;cases h
 |e::r=>by
  unfold aheadOf;have ih:=mem_aheadOf bs j r;cases hb:Region.binds .any e with
  |true=>
   simp only[mem_or,mem_one,ih,nth_eq,List.mem_cons];constructor
   ·rintro(h|h|⟨e',h1,h2⟩)
    ·exact⟨e,.inl rfl,hb,.inl h⟩
    ·exact⟨e,.inl rfl,hb,.inr h⟩
    ·exact⟨e',.inr h1,h2⟩
   ·rintro⟨e',rfl|h1,h2,h3⟩
    ·exact h3.imp id .inl
    ·exact .inr (.inr ⟨e',h1,h2,h3⟩)
  |false=>
   simp only[ih,List.mem_cons];constructor
   ·rintro⟨e',h1,h2⟩;exact⟨e',.inr h1,h2⟩
   ·rintro⟨e',rfl|h1,h2,h3⟩
    ·rw[hb]at h2;cases h2
    ·exact⟨e',h1,h2,h3⟩
theorem aheads_spec:∀(l:List Oper) (pre:List Bits),∃tl,aheads l pre=pre++tl/\tl.length=l.length/\∀i o,l[i]? =some o->(pre++tl)[pre.length+i]? =some (aheadOf ((pre++tl).take (pre.length+i)) o.after.toList)
 |[],pre=>⟨[],by simp[aheads],rfl,λi o h=>by simp at h⟩
 |o::r,pre=>by
  obtain⟨tl,h1,h2,h3⟩:=aheads_spec r (pre++[aheadOf pre o.after.toList]);refine⟨aheadOf pre o.after.toList::tl,?_,by simp[h2],λi o' hi=> ?_⟩
  ·show aheads r (pre++[aheadOf pre o.after.toList])=_
   rw[h1];simp
  ·cases i with
   |zero=>
    simp only[List.getElem?_cons_zero,Option.some.injEq]at hi;subst hi;simp
   |succ i=>
    have:=h3 i o' (by simpa using hi);simp only[List.length_append,List.length_singleton,List.append_assoc,List.singleton_append]at this;rw[show pre.length+(i+1)=pre.length+1+i by omega];exact this
theorem edgesBack_spec:∀(l:List Oper) (i:Nat),edgesBack i l=true->∀k o,l[k]? =some o->∀e∈o.after,Region.binds .any e=true->e.on<i+k
 |[],_,_,k,o,h=>by simp at h
 |x::r,i,hb,k,o,h=>by
  simp only[edgesBack,Bool.and_eq_true,List.all_eq_true]at hb;cases k with
  |zero=>
   simp only[List.getElem?_cons_zero,Option.some.injEq]at h;subst h;intro e he hbi;have:=hb.1 e (by simpa using he);rw[hbi]at this;have h1:Nat.ble (e.on+1) i=true:=this;have h2:=Nat.le_of_ble_eq_true h1;omega
  |succ k=>
   intro e he hbi;have:=edgesBack_spec r (i+1) hb.2 k o (by simpa using h) e he hbi;omega
theorem tmpPairs_spec {all:List Oper} {ahead:Bits} {ly:List Nat} {y:Oper}:∀(l:List Oper) (j n:Nat),tmpPairs all ahead ly y j n l=true->∀k x,k<n->l[k]? =some x->j+k∈ahead\/tmpPair (looksAt all x) ly x y=true
 |[],_,_,_,k,x,_,hx=>by simp at hx
 |_::_,_,0,_,k,x,hk,_=>by omega
 |z::r,j,n+1,h,k,x,hk,hx=>by
  unfold tmpPairs at h
  have here:(j∈ahead\/tmpPair (looksAt all z) ly z y=true)/\tmpPairs all ahead ly y (j+1) n r=true:=by
   split at h
   ·rename_i hm;exact⟨.inl hm,h⟩
   ·split at h
    ·rename_i hp;exact⟨.inr hp,h⟩
    ·cases h
  cases k with
  |zero=>
   simp only[List.getElem?_cons_zero,Option.some.injEq]at hx;subst hx;exact here.1
  |succ k=>
   have:=tmpPairs_spec r (j+1) n here.2 k x (by omega) (by simpa using hx);rwa[show j+1+k=j+(k+1) by omega]at this
theorem tmpsOk_spec {all:List Oper} {bs:List Bits}:∀(l:List Oper) (i:Nat),tmpsOk all bs i l=true->∀k y,l[k]? =some y->tmpPairs all ((bs[i+k]?).getD Bits.nil) (looksAt all y) y 0 (i+k) all=true
 |[],_,_,k,y,h=>by simp at h
 |x::r,i,h,k,y,hy=>by
  unfold tmpsOk at h;split at h
  ·rename_i h1
   cases k with
   |zero=>
    simp only[List.getElem?_cons_zero,Option.some.injEq]at hy;subst hy;rw[nth_eq]at h1;exact h1
   |succ k=>
    have:=tmpsOk_spec r (i+1) h k y (by simpa using hy);rwa[show i+1+k=i+(k+1) by omega]at this
  ·cases h
theorem ahead_in {all:List Oper} {L:Nat->Bool} (hc:∀i o,all[i]? =some o->L i=true->∀e∈o.after,Region.binds .any e=true->L e.on=true):
  ∀(n i:Nat),i<n->∀o,all[i]? =some o->(∀e∈o.after,Region.binds .any e=true->L e.on=true)->∀j∈(((aheads all [])[i]?).getD Bits.nil),L j=true
 |0,i,hi,_,_,_,_,_=>by omega
 |n+1,i,hi,o,ho,hw,j,hj=>by
  obtain⟨tl,h1,h2,h3⟩:=aheads_spec all [];simp only[List.nil_append,List.length_nil,Nat.zero_add]at h1 h3;have h4:=h3 i o ho;rw[h1,h4,Option.getD_some,mem_aheadOf]at hj;obtain⟨e,he,hb,hj⟩:=hj;have he:e∈o.after:=by simpa using he
  have hon:=hw e he hb;rcases hj with rfl|hj
  ·exact hon
  ·rw[List.getElem?_take]at hj
   split at hj
   ·rename_i hlt
    have hlen:e.on<all.length:=by
     have:=(List.getElem?_eq_some_iff.1 ho).1;omega
    refine ahead_in hc n e.on (by omega) all[e.on] (List.getElem?_eq_getElem hlen) (hc e.on _ (List.getElem?_eq_getElem hlen) hon) j ?_;rw[h1];exact hj
   ·exact absurd hj (mem_nil j)
theorem noMem_iff {d:Option Nat} {l:List Nat}:noMem d l=true↔∀t,d=some t->t∉l:=by
 cases d with
 |none=>simp[noMem]
 |some t=>
  simp only[noMem,Bool.not_eq_true',Option.some.injEq,forall_eq'];rw[<-mem_iff];simp
theorem neDst_iff {a b:Option Nat}:neDst a b=true↔∀t,a=some t->b≠some t:=by
 cases a with
 |none=>simp[neDst]
 |some d=>
  cases b with
  |none=>simp[neDst]
  |some e=>
   simp only[neDst,Bool.not_eq_true',Option.some.injEq,forall_eq',ne_eq];constructor
   ·intro h he
    subst he;rw[Nat.beq_refl]at h;cases h
   ·intro h
    cases hb:Nat.beq d e with
    |false=>rfl
    |true=>exact absurd (Nat.eq_of_beq_eq_true hb).symm h
theorem mem_tmpsOf {t:Nat}:∀{l:List Operand},.tmp t∈l->t∈tmpsOf l
 |x::r,h=>by
  rcases List.mem_cons.1 h with rfl|h
  ·simp[tmpsOf]
  ·have:=mem_tmpsOf h
   cases x<;>simp[tmpsOf,this]
theorem VR.down {ρ ρ':Rho} (s:Sub ρ ρ') {v:CV} {x:Value} (h:VR ρ v x):∀{y:Value},VR ρ' v y->VR ρ v y:=by
 induction h with
 |undef x=>intro y _;exact .undef y
 |bool b=>intro y h;cases h;exact .bool b
 |int k n=>intro y h;cases h;exact .int k n
 |str x=>
  intro y h;obtain⟨b,rfl,e⟩:=h.inv_str;rw[<-e];exact .str b
 |nilptr=>intro y h;cases h;exact .nilptr
 |ptr i o k d h=>
  intro y hy;obtain⟨k2,d2,h1,rfl⟩:=hy.inv_ptr;rw[(s _ _ h).1]at h1;cases h1;exact .ptr i o k d h
 |nilslice n c x c' h hx hn hm=>
  intro y hy;obtain⟨c2,rfl,h1,h2,h3,h4⟩:=hy.inv_nilslice;exact .nilslice n c x c2 h1 h2 h3 h4
 |slice i o n c x k d c' hi h hx hr hn hm=>
  intro y hy;obtain⟨k2,d2,c2,h1,rfl,h2,h3,h4,h5,h6⟩:=hy.inv_slice;rw[(s _ _ hi).1]at h1;cases h1;exact .slice i o n c x k d c2 hi h2 h3 (λe=>by rw[<-(s _ _ hi).2];exact h6 e) h4 h5
 |empty p c hm=>intro y hy;obtain⟨p2,c2,rfl,h2⟩:=hy.inv_empty;exact .empty p2 c2 h2
 |nilmap=>intro y h;cases h;exact .nilmap
 |map i k h=>
  intro y hy;obtain⟨k2,h1,rfl⟩:=hy.inv_map;rw[(s _ _ h).1]at h1;cases h1;exact .map i k h
 |fn f first caps a1 a2 hl1 hl2 hr1 hr2 ih1 ih2=>
  intro y hy;cases hy with
  |fn _ _ _ b1 b2 g1 g2 g3 g4=>exact .fn f first caps b1 b2 g1 g2 (λi hi=>ih1 i hi (g3 i hi)) (λi hi=>ih2 i hi (g4 i hi))
 |yield i l h=>
  intro y hy;cases hy with
  |yield _ l2 h2=>
   rw[(s _ _ h).1]at h2;cases h2;exact .yield i l h
 |nilFunc=>intro y h;cases h;exact .nilFunc
 |iface t v x h ih=>
  intro y hy;obtain⟨z,rfl,h1⟩:=hy.inv_iface;exact .iface t v z (ih h1)
 |nilIface=>intro y h;cases h;exact .nilIface
 |agg cs arr hl hr h1 ih=>
  intro y hy;cases hy with
  |agg _ b g1 g2 g3=>exact .agg cs b g1 (λi hi=>ih i hi (g2 i hi)) h1
 |tup cs arr hl hr ih=>
  intro y hy;cases hy with
  |tup _ b g1 g2=>exact .tup cs b g1 (λi hi=>ih i hi (g2 i hi))
theorem VRs.down {ρ ρ':Rho} (s:Sub ρ ρ') {vs:List CV} {xs ys:List Value} (h:VRs ρ vs xs) (k:VRs ρ' vs ys):VRs ρ vs ys:=⟨k.1,λi hi=>(h.2 i hi).down s (k.2 i hi)⟩
theorem BlkRel.down {ρ ρ':Rho} (s:Sub ρ ρ') {w w':World} {k d r k' d' r':Nat} {b:Blk} (h:BlkRel ρ w k d r b) (h':BlkRel ρ' w' k' d' r' b):BlkRel ρ w' k' d' r' b:=by
 cases b with
 |cells cs ro=>
  obtain⟨arr,ty,fz,h1,h2,h3,h4,h5⟩:=h';obtain⟨_,_,_,_,_,g3,_,_⟩:=h;exact⟨arr,ty,fz,h1,h2,g3.down s h3,h4,h5⟩
 |map es c=>
  obtain⟨h0,ms,h1,h2,h3,h4⟩:=h';obtain⟨_,_,_,g2,g3,_⟩:=h;exact⟨h0,ms,h1,g2.down s h2,g3.down s h3,h4⟩
 |strIter x p=>exact h'
 |loop tm ps asg body st pend=>
  obtain⟨h0,r,h1,h2⟩:=h';obtain⟨_,r0,_,g2⟩:=h;exact⟨h0,r,h1,⟨h2.estate,h2.epend,h2.eps,h2.easg,h2.ebody,λt=>(g2.tmp t).down s (h2.tmp t),h2.ok⟩⟩
def restr (ρ:Rho) (n:Nat):Rho:=⟨λi=>if i<n then ρ i else none,ρ.room⟩
theorem restr_lt {ρ:Rho} {n i:Nat} (h:i<n):restr ρ n i=ρ i:=by show(if i<n then ρ i else none)=ρ i;rw[if_pos h]
theorem restr_ge {ρ:Rho} {n i:Nat} (h:n<=i):restr ρ n i=none:=by show(if i<n then ρ i else none)=none;rw[if_neg (by omega)]
theorem restr_some {ρ:Rho} {n i:Nat} {p:Nat×Nat} (h:restr ρ n i=some p):i<n/\ρ i=some p:=by
 rcases Nat.lt_or_ge i n with hi|hi
 ·rw[restr_lt hi]at h;exact⟨hi,h⟩
 ·rw[restr_ge hi]at h;cases h
theorem restr_sub (ρ:Rho) (n:Nat):Sub (restr ρ n) ρ:=λ_ _ h=>⟨(restr_some h).2,rfl⟩
theorem restr_le (ρ:Rho) {n m:Nat} (h:n<=m):Sub (restr ρ n) (restr ρ m):=λi p hp=>by
 obtain⟨h1,h2⟩:=restr_some hp;exact⟨by rw[restr_lt (by omega)];exact h2,rfl⟩
theorem restr_mono {ρ ρ':Rho} (s:Sub ρ ρ') (n:Nat):Sub (restr ρ n) (restr ρ' n):=λi p hp=>by
 obtain⟨h1,h2⟩:=restr_some hp;exact⟨by rw[restr_lt h1];exact(s i p h2).1,(s i p h2).2⟩
end Go.CM
