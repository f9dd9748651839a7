/- What the plain machine's values and memory say of a world. No condition. -/
import Derived.Test.YtmgpjfnlciapkaaGreatDoorCmC
import Derived.Below
import Derived.IntWalk
import Derived.Calls
import Derived.Laws.AppendOwn
import Derived.Laws.MakeOwn
import Derived.Laws.CopyRow
import Derived.Laws.Rows
import Derived.Laws.Cells
set_option linter.unusedVariables false
set_option linter.unusedSimpArgs false
noncomputable section
namespace Go.CM
theorem bitsF_succ (n k:Nat):bitsF (n+1) (k+1)=Nat.beq (k%2) 0::bitsF n (k/2):=rfl
def unbits:List Bool->Nat
 |[]=>0
 |true::r=>2*unbits r+1
 |false::r=>2*unbits r+2
theorem unbits_bitsF:∀n k,k<=n->unbits (bitsF n k)=k
 |0,k,h=>by have:k=0:=by omega
            subst this;rfl
 |n+1,0,_=>rfl
 |n+1,k+1,h=>by
  rw[bitsF_succ]
  have ih:=unbits_bitsF n (k/2) (by omega)
  cases hb:Nat.beq (k%2) 0
  ·have:k%2≠0:=by intro e;rw[e]at hb;cases hb
   simp only[unbits,ih];omega
  ·have:k%2=0:=Nat.eq_of_beq_eq_true hb
   simp only[unbits,ih];omega
theorem bits_inj {i j:Nat} (h:bits i=bits j):i=j:=by
 have h1:=unbits_bitsF (i+1) i (by omega)
 have h2:=unbits_bitsF (j+1) j (by omega)
 unfold bits at h
 rw[<-h1,<-h2,h]
namespace Tree
variable {α:Type}
theorem getP_leaf (p:List Bool):getP p (.leaf:Tree α)=none:=by cases p<;>rfl
theorem getP_true (p:List Bool) (l:Tree α) (v:Option α) (r:Tree α):getP (true::p) (.node l v r)=getP p l:=rfl
theorem getP_false (p:List Bool) (l:Tree α) (v:Option α) (r:Tree α):getP (false::p) (.node l v r)=getP p r:=rfl
theorem setP_nil (x:Option α) (t:Tree α):setP x [] t=match t with| .leaf=> .node .leaf x .leaf| .node l _ r=> .node l x r:=by cases t<;>rfl
theorem setP_true (x:Option α) (p:List Bool) (t:Tree α):setP x (true::p) t=match t with| .leaf=> .node (setP x p .leaf) none .leaf| .node l v r=> .node (setP x p l) v r:=by cases t<;>rfl
theorem setP_false (x:Option α) (p:List Bool) (t:Tree α):setP x (false::p) t=match t with| .leaf=> .node .leaf none (setP x p .leaf)| .node l v r=> .node l v (setP x p r):=by cases t<;>rfl
theorem getP_setP_same (x:Option α):∀(p:List Bool) (t:Tree α),getP p (setP x p t)=x
 |[],t=>by rw[setP_nil];cases t<;>rfl
 |true::p,t=>by rw[setP_true];cases t<;>exact getP_setP_same x p _
 |false::p,t=>by rw[setP_false];cases t<;>exact getP_setP_same x p _
theorem getP_setP_other (x:Option α):∀(p q:List Bool) (t:Tree α),p≠q->getP q (setP x p t)=getP q t
 |[],[],_,h=>absurd rfl h
 |[],b::q,t,_=>by
  rw[setP_nil]
  cases t
  ·cases b<;>simp only[getP_true,getP_false,getP_leaf]
  ·cases b<;>rfl
 |b::p,[],t,_=>by
  cases b
  ·rw[setP_false];cases t<;>rfl
  ·rw[setP_true];cases t<;>rfl
 |b::p,c::q,t,h=>by
  by_cases hbc:b=c
  ·subst hbc
   have hpq:p≠q:=λe=>h (by rw[e])
   cases b
   ·rw[setP_false]
    cases t
    ·simp only[getP_false,getP_leaf,getP_setP_other x p q _ hpq]
    ·simp only[getP_false,getP_setP_other x p q _ hpq]
   ·rw[setP_true]
    cases t
    ·simp only[getP_true,getP_leaf,getP_setP_other x p q _ hpq]
    ·simp only[getP_true,getP_setP_other x p q _ hpq]
  ·cases b<;>cases c<;>first|exact absurd rfl hbc|skip
   ·rw[setP_false];cases t<;>simp only[getP_true,getP_leaf]
   ·rw[setP_true];cases t<;>simp only[getP_false,getP_leaf]
theorem get_set (t:Tree α) (i j:Nat) (x:Option α):(t.set i x).get j=if i=j then x else t.get j:=by
 unfold get set
 split
 ·rename_i h;subst h;exact getP_setP_same ..
 ·rename_i h;exact getP_setP_other _ _ _ _ λe=>h (bits_inj e)
theorem get_leaf (i:Nat):(.leaf:Tree α).get i=none:=getP_leaf _
end Tree
theorem lt16 {n:Nat} (h:n<16):n=0\/n=1\/n=2\/n=3\/n=4\/n=5\/n=6\/n=7\/n=8\/n=9\/n=10\/n=11\/n=12\/n=13\/n=14\/n=15:=by omega
theorem accA_law {a b:Nat} (ha:a<16) (hb:b<16) (v:CV) (t:NA):(accA b).get ((accA a).set v t)=if a=b then v else(accA b).get t:=by
 obtain⟨c0,c1,c2,c3,c4,c5,c6,c7,c8,c9,c10,c11,c12,c13,c14,c15⟩:=t
 rcases lt16 ha with rfl|rfl|rfl|rfl|rfl|rfl|rfl|rfl|rfl|rfl|rfl|rfl|rfl|rfl|rfl|rfl<;>rcases lt16 hb with rfl|rfl|rfl|rfl|rfl|rfl|rfl|rfl|rfl|rfl|rfl|rfl|rfl|rfl|rfl|rfl<;>rfl
theorem accB_law {a b:Nat} (ha:a<16) (hb:b<16) (v:NA) (t:Tm):(accB b).get ((accB a).set v t)=if a=b then v else(accB b).get t:=by
 obtain⟨c0,c1,c2,c3,c4,c5,c6,c7,c8,c9,c10,c11,c12,c13,c14,c15,r⟩:=t
 rcases lt16 ha with rfl|rfl|rfl|rfl|rfl|rfl|rfl|rfl|rfl|rfl|rfl|rfl|rfl|rfl|rfl|rfl<;>rcases lt16 hb with rfl|rfl|rfl|rfl|rfl|rfl|rfl|rfl|rfl|rfl|rfl|rfl|rfl|rfl|rfl|rfl<;>rfl
theorem accB_rest {a:Nat} (ha:a<16) (v:NA) (t:Tm):((accB a).set v t).rest=t.rest:=by
 obtain⟨c0,c1,c2,c3,c4,c5,c6,c7,c8,c9,c10,c11,c12,c13,c14,c15,r⟩:=t
 rcases lt16 ha with rfl|rfl|rfl|rfl|rfl|rfl|rfl|rfl|rfl|rfl|rfl|rfl|rfl|rfl|rfl|rfl<;>rfl
theorem accB_setRest {a:Nat} (ha:a<16) (r:Tree CV) (t:Tm):(accB a).get (Tm.setRest r t)=(accB a).get t:=by
 obtain⟨c0,c1,c2,c3,c4,c5,c6,c7,c8,c9,c10,c11,c12,c13,c14,c15,r0⟩:=t
 rcases lt16 ha with rfl|rfl|rfl|rfl|rfl|rfl|rfl|rfl|rfl|rfl|rfl|rfl|rfl|rfl|rfl|rfl<;>rfl
theorem Tm.look_put (t:Tm) (i j:Nat) (v:CV):(t.putv i v).look j=if i=j then v else t.look j:=by
 unfold Tm.look Tm.putv
 cases hj:Nat.blt j 256 with
 |true=>
  have hj:j<256:=by simpa[Nat.blt_eq]using hj
  cases hi:Nat.blt i 256 with
  |true=>
   have hi:i<256:=by simpa[Nat.blt_eq]using hi
   simp only
   rw[accB_law (by omega) (by omega)]
   by_cases h:i/16=j/16
   ·rw[if_pos h,accA_law (by omega) (by omega)]
    by_cases h2:i%16=j%16
    ·rw[if_pos h2,if_pos (by omega)]
    ·rw[if_neg h2,if_neg (by intro e;exact h2 (by rw[e])),h]
   ·rw[if_neg h,if_neg (by intro e;exact h (by rw[e]))]
  |false=>
   have hi:¬i<256:=by intro e;rw[show Nat.blt i 256=true by simpa[Nat.blt_eq]using e]at hi;cases hi
   simp only
   rw[accB_setRest (by omega),if_neg (by omega)]
 |false=>
  have hj:¬j<256:=by intro e;rw[show Nat.blt j 256=true by simpa[Nat.blt_eq]using e]at hj;cases hj
  cases hi:Nat.blt i 256 with
  |true=>
   have hi:i<256:=by simpa[Nat.blt_eq]using hi
   simp only
   rw[accB_rest (by omega),if_neg (by omega)]
  |false=>
   simp only
   have:(Tm.setRest (t.rest.set i (some v)) t).rest=t.rest.set i (some v):=by cases t;rfl
   rw[this,Tree.get_set]
   by_cases h:i=j
   ·rw[if_pos h,if_pos h];rfl
   ·rw[if_neg h,if_neg h]
theorem Tm.get_set (t:Tm) (i j:Nat) (v:CV):(t.set i (some v)).get j=if i=j then some v else t.get j:=by
 show some ((t.putv i v).look j)=_
 rw[Tm.look_put]
 by_cases h:i=j
 ·rw[if_pos h,if_pos h]
 ·rw[if_neg h,if_neg h];rfl
theorem Tm.get_leaf (i:Nat):Tm.leaf.get i=some .undef:=by
 show some (Tm.leaf.look i)=_
 unfold Tm.look
 cases hi:Nat.blt i 256 with
 |true=>
  have h1:i/16<16:=by have hi:i<256:=(by simpa[Nat.blt_eq]using hi);omega
  have h2:i%16<16:=by omega
  simp only
  generalize i/16=a at h1
  generalize i%16=b at h2
  rcases lt16 h1 with rfl|rfl|rfl|rfl|rfl|rfl|rfl|rfl|rfl|rfl|rfl|rfl|rfl|rfl|rfl|rfl<;>rcases lt16 h2 with rfl|rfl|rfl|rfl|rfl|rfl|rfl|rfl|rfl|rfl|rfl|rfl|rfl|rfl|rfl|rfl<;>rfl
 |false=>
  show some (((.leaf:Tree CV).get i).getD .undef)=_
  rw[Tree.get_leaf];rfl
theorem Heap.get_put (h:Heap) (i j:Nat) (b:Blk):(h.put i b).get j=if i=j then some b else h.get j:=Tree.get_set ..
theorem Heap.get_del (h:Heap) (i j:Nat):(h.del i).get j=if i=j then none else h.get j:=Tree.get_set ..
theorem Heap.get_new (h:Heap) (j:Nat) (b:Blk):(h.new b).get j=if h.next=j then some b else h.get j:=Tree.get_set ..
section
variable {α:Type}
theorem nth_eq:∀(l:List α) (n:Nat),nth l n=l[n]?
 |[],_=>rfl
 |_::_,0=>rfl
 |_::l,n+1=>nth_eq l n
theorem takeN_eq:∀(l:List α) (n:Nat),takeN l n=if n<=l.length then some (l.take n)else none
 |[],0=>rfl
 |[],_+1=>rfl
 |_::_,0=>rfl
 |c::l,n+1=>by
  show(takeN l n).map (c:: ·)=_
  rw[takeN_eq l n]
  simp only[List.length_cons,Nat.add_le_add_iff_right,List.take_succ_cons]
  split<;>rfl
theorem dropN_eq:∀(l:List α) (n:Nat),dropN l n=if n<=l.length then some (l.drop n)else none
 |[],0=>rfl
 |[],_+1=>rfl
 |_::_,0=>rfl
 |c::l,n+1=>by
  show dropN l n=_
  rw[dropN_eq l n]
  simp only[List.length_cons,Nat.add_le_add_iff_right,List.drop_succ_cons]
theorem cut_eq (l:List α) (off n:Nat):cut l off n=if off+n<=l.length then some ((l.drop off).take n)else none:=by
 unfold cut
 rw[dropN_eq]
 by_cases h:off<=l.length
 ·simp only[h,if_true,Option.bind_some,takeN_eq,List.length_drop]
  by_cases h2:off+n<=l.length
  ·rw[if_pos (by omega),if_pos h2]
  ·rw[if_neg (by omega),if_neg h2]
 ·simp only[h,if_false,Option.bind_none]
  rw[if_neg (by omega)]
theorem over_eq:∀(vs l:List α),over vs l=if vs.length<=l.length then some (vs++l.drop vs.length)else none
 |[],l=>by simp[over]
 |v::vs,[]=>by simp[over]
 |v::vs,c::l=>by
  show(over vs l).map (v:: ·)=_
  rw[over_eq vs l]
  simp only[List.length_cons,Nat.add_le_add_iff_right,List.drop_succ_cons,List.cons_append]
  split<;>rfl
theorem setAt_eq:∀(l vs:List α) (n:Nat),setAt l vs n=if n+vs.length<=l.length then some (l.take n++vs++l.drop (n+vs.length))else none
 |[],vs,0=>by show over vs []=_;rw[over_eq];simp
 |[],vs,n+1=>by simp[setAt]
 |c::l,vs,0=>by show over vs (c::l)=_;rw[over_eq];simp
 |c::l,vs,n+1=>by
  show(setAt l vs n).map (c:: ·)=_
  rw[setAt_eq l vs n]
  have e:n+1+vs.length=(n+vs.length)+1:=by omega
  simp only[List.length_cons,e,Nat.add_le_add_iff_right,List.take_succ_cons,List.drop_succ_cons,List.cons_append]
  split<;>rfl
theorem len_eq:∀(l:List α),len l=l.length
 |[]=>rfl
 |_::l=>congrArg (· +1) (len_eq l)
end
theorem bytesEq_eq:∀(a b:List UInt8),bytesEq a b=decide (a=b)
 |[],[]=>by simp[bytesEq]
 |[],_::_=>by simp[bytesEq]
 |_::_,[]=>by simp[bytesEq]
 |a::x,b::y=>by
  have ih:=bytesEq_eq x y
  unfold bytesEq
  by_cases h:a=b
  ·subst h
   have:Nat.beq a.toNat a.toNat=true:=Nat.beq_refl _
   simp[this,ih]
  ·have:Nat.beq a.toNat b.toNat=false:=by
     rw[<-Bool.not_eq_true];intro e
     exact h (UInt8.toNat_inj.1 (Nat.eq_of_beq_eq_true e))
   simp[this,h]
theorem intEq_eq (a b:Int):intEq a b=(a==b):=by
 cases a<;>cases b<;>simp only[intEq]
 ·rw[Bool.eq_iff_iff,Nat.beq_eq];simp only[beq_iff_eq,Int.ofNat.injEq]
 ·rw[eq_comm,beq_eq_false_iff_ne];exact λh=>by cases h
 ·rw[eq_comm,beq_eq_false_iff_ne];exact λh=>by cases h
 ·rw[Bool.eq_iff_iff,Nat.beq_eq];simp only[beq_iff_eq,Int.negSucc.injEq]
theorem intLe_eq (a b:Int):intLe a b=decide (a<=b):=by
 cases a<;>cases b<;>simp only[intLe]
 ·rw[Bool.eq_iff_iff,Nat.ble_eq];simp
 ·rename_i m n
  rw[eq_comm,decide_eq_false_iff_not]
  have:(Int.ofNat m)=(m:Int):=rfl
  omega
 ·rename_i m n
  rw[eq_comm,decide_eq_true_iff]
  have:(Int.ofNat n)=(n:Int):=rfl
  omega
 ·rw[Bool.eq_iff_iff,Nat.ble_eq,decide_eq_true_iff];omega
theorem kindEq_iff {a b:IntKind}:kindEq a b=true↔a=b:=by
 cases a<;>cases b<;>decide
theorem place_eq {n:Int} {l i:Nat} (h:place n l=some i):n=i/\i<l:=by
 unfold place at h
 split at h
 ·split at h
  ·rename_i hb
   cases h
   exact⟨rfl,by simpa[Nat.blt_eq]using hb⟩
  ·cases h
 ·cases h
theorem upto_eq {n:Int} {l i:Nat} (h:upto n l=some i):n=i/\i<=l:=by
 unfold upto at h
 split at h
 ·split at h
  ·rename_i hb
   cases h
   exact⟨rfl,Nat.le_of_ble_eq_true hb⟩
  ·cases h
 ·cases h
mutual
theorem cvEq_sound:∀(a b:CV),cvEq a b=true->a=b
 | .undef,b,e=>by cases b<;>first|rfl|(simp[cvEq]at e)
 | .empty,b,e=>by cases b<;>first|rfl|(simp[cvEq]at e)
 | .bool x,b,e=>by cases b<;>simp[cvEq]at e;rw[e]
 | .int k x,b,e=>by
   cases b<;>simp[cvEq]at e
   obtain⟨e1,e2⟩:=e
   rw[kindEq_iff.1 e1]
   rw[intEq_eq,beq_iff_eq]at e2
   rw[e2]
 | .str x,b,e=>by
   cases b<;>simp[cvEq]at e
   rw[bytesEq_eq,decide_eq_true_iff]at e
   rw[e]
 | .ptr none,b,e=>by
   cases b with
   |ptr q=>cases q<;>first|rfl|(simp[cvEq]at e)
   |_=>simp[cvEq]at e
 | .ptr (some p),b,e=>by
   cases b with
   |ptr q=>
    cases q with
    |none=>simp[cvEq]at e
    |some q=>
     simp only[cvEq,Bool.and_eq_true]at e
     obtain⟨p1,p2⟩:=p
     obtain⟨q1,q2⟩:=q
     have e1:p1=q1:=Nat.eq_of_beq_eq_true e.1
     have e2:p2=q2:=Nat.eq_of_beq_eq_true e.2
     rw[e1,e2]
   |_=>simp[cvEq]at e
 | .slice none n c x,b,e=>by
   cases b with
   |slice q n' c' x'=>
    cases q with
    |none=>
     simp only[cvEq,Bool.and_eq_true]at e
     rw[Nat.eq_of_beq_eq_true e.1.1,Nat.eq_of_beq_eq_true e.1.2,Nat.eq_of_beq_eq_true e.2]
    |some q=>simp[cvEq]at e
   |_=>simp[cvEq]at e
 | .slice (some p) n c x,b,e=>by
   cases b with
   |slice q n' c' x'=>
    cases q with
    |none=>simp[cvEq]at e
    |some q=>
     simp only[cvEq,Bool.and_eq_true]at e
     obtain⟨p1,p2⟩:=p
     obtain⟨q1,q2⟩:=q
     obtain⟨⟨⟨⟨e1,e2⟩,e3⟩,e4⟩,e5⟩:=e
     have e1:p1=q1:=Nat.eq_of_beq_eq_true e1
     have e2:p2=q2:=Nat.eq_of_beq_eq_true e2
     rw[e1,e2,Nat.eq_of_beq_eq_true e3,Nat.eq_of_beq_eq_true e4,Nat.eq_of_beq_eq_true e5]
   |_=>simp[cvEq]at e
 | .map none,b,e=>by
   cases b with
   |map q=>cases q<;>first|rfl|(simp[cvEq]at e)
   |_=>simp[cvEq]at e
 | .map (some p),b,e=>by
   cases b with
   |map q=>
    cases q with
    |none=>simp[cvEq]at e
    |some q=>simp only[cvEq]at e;rw[Nat.eq_of_beq_eq_true e]
   |_=>simp[cvEq]at e
 | .fn g x y,b,e=>by
   cases b<;>simp[cvEq]at e
   rw[e.1.1,cvsEq_sound _ _ e.1.2,cvsEq_sound _ _ e.2]
 | .yield l,b,e=>by cases b<;>simp[cvEq]at e;rw[e]
 | .nilFunc,b,e=>by cases b<;>first|rfl|(simp[cvEq]at e)
 | .iface t x,b,e=>by
   cases b<;>simp[cvEq]at e
   rw[e.1,cvEq_sound _ _ e.2]
 | .nilIface,b,e=>by cases b<;>first|rfl|(simp[cvEq]at e)
 | .agg x,b,e=>by
   cases b<;>simp[cvEq]at e
   rw[cvsEq_sound _ _ e]
 | .tup x,b,e=>by
   cases b<;>simp[cvEq]at e
   rw[cvsEq_sound _ _ e]
theorem cvsEq_sound:∀(a b:List CV),cvsEq a b=true->a=b
 |[],b,e=>by cases b<;>first|rfl|(simp[cvsEq]at e)
 |x::a,b,e=>by
  cases b with
  |nil=>simp[cvsEq]at e
  |cons y b=>
   simp only[cvsEq,Bool.and_eq_true]at e
   rw[cvEq_sound _ _ e.1,cvsEq_sound _ _ e.2]
end
theorem mesEq_sound:∀(a b:List ME),mesEq a b=true->a=b
 |[],b,e=>by cases b<;>first|rfl|(simp[mesEq]at e)
 |x::a,b,e=>by
  cases b with
  |nil=>simp[mesEq]at e
  |cons y b=>
   simp only[mesEq,Bool.and_eq_true]at e
   obtain⟨⟨⟨e1,e2⟩,e3⟩,e4⟩:=e
   obtain⟨k,v,n⟩:=x
   obtain⟨k',v',n'⟩:=y
   simp only at e1 e2 e3
   rw[cvEq_sound _ _ e1,cvEq_sound _ _ e2,Nat.eq_of_beq_eq_true e3,mesEq_sound _ _ e4]
theorem blkEq_sound {a b:Option Blk} (e:blkEq a b=true):a=b:=by
 unfold blkEq at e
 split at e
 ·rfl
 ·simp only[Bool.and_eq_true,beq_iff_eq]at e
  rw[cvsEq_sound _ _ e.1,e.2]
 ·simp only[Bool.and_eq_true]at e
  rw[mesEq_sound _ _ e.1,Nat.eq_of_beq_eq_true e.2]
 ·simp only[Bool.and_eq_true]at e
  obtain⟨e1,e2⟩:=e
  rw[bytesEq_eq,decide_eq_true_iff]at e1
  rw[e1,Nat.eq_of_beq_eq_true e2]
 ·cases e
end Go.CM
