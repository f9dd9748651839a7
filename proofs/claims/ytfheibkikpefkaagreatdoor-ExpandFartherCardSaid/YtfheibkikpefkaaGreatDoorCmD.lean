/- What the plain machine's values and memory say of a world. No condition. -/
import Derived.Test.YtfheibkikpefkaaGreatDoorCmC
import Derived.Below
import Derived.IntWalk
import Derived.Calls
import Derived.Laws.AppendOwn
import Derived.Laws.MakeOwn
import Derived.Laws.CopyRow
import Derived.Laws.Rows
import Derived.Laws.Cells
set_option linter.unusedVariables false
set_option linter.unusedSimpArgs false
noncomputable section
namespace Go.CM
theorem bitsF_succ (n k:Nat):bitsF (n+1) (k+1)=Nat.beq (k%2) 0::bitsF n (k/2):=rfl
def unbits:List Bool->Nat
 |[]=>0
 |true::r=>2*unbits r+1
 |false::r=>2*unbits r+2
theorem unbits_bitsF:∀n k,k<=n->unbits (bitsF n k)=k
 |0,k,h=>by have:k=0:=by omega
            subst this;rfl
 |n+1,0,_=>rfl
 |n+1,k+1,h=>by
  rw[bitsF_succ];have ih:=unbits_bitsF n (k/2) (by omega);cases hb:Nat.beq (k%2) 0
  ·have:k%2≠0:=by intro e;rw[e]at hb;cases hb
   simp only[unbits,ih];omega
  ·have:k%2=0:=Nat.eq_of_beq_eq_true hb
   simp only[unbits,ih];omega
theorem bits_inj {i j:Nat} (h:bits i=bits j):i=j:=by
 have h1:=unbits_bitsF (i+1) i (by omega);have h2:=unbits_bitsF (j+1) j (by omega);unfold bits at h;rw[<-h1,<-h2,h]
namespace Tree
variable {α:Type}
theorem getP_leaf (p:List Bool):getP p (.leaf:Tree α)=none:=by cases p<;>rfl
theorem getP_true (p:List Bool) (l:Tree α) (v:Option α) (r:Tree α):getP (true::p) (.node l v r)=getP p l:=rfl
theorem getP_false (p:List Bool) (l:Tree α) (v:Option α) (r:Tree α):getP (false::p) (.node l v r)=getP p r:=rfl
theorem setP_nil (x:Option α) (t:Tree α):setP x [] t=match t with| .leaf=> .node .leaf x .leaf| .node l _ r=> .node l x r:=by cases t<;>rfl
theorem setP_true (x:Option α) (p:List Bool) (t:Tree α):setP x (true::p) t=match t with| .leaf=> .node (setP x p .leaf) none .leaf| .node l v r=> .node (setP x p l) v r:=by cases t<;>rfl
theorem setP_false (x:Option α) (p:List Bool) (t:Tree α):setP x (false::p) t=match t with| .leaf=> .node .leaf none (setP x p .leaf)| .node l v r=> .node l v (setP x p r):=by cases t<;>rfl
theorem getP_setP_same (x:Option α):∀(p:List Bool) (t:Tree α),getP p (setP x p t)=x
 |[],t=>by rw[setP_nil];cases t<;>rfl
 |true::p,t=>by rw[setP_true];cases t<;>exact getP_setP_same x p _
 |false::p,t=>by rw[setP_false];cases t<;>exact getP_setP_same x p _
theorem getP_setP_other (x:Option α):∀(p q:List Bool) (t:Tree α),p≠q->getP q (setP x p t)=getP q t
 |[],[],_,h=>absurd rfl h
 |[],b::q,t,_=>by
  rw[setP_nil];cases t
  ·cases b<;>simp only[getP_true,getP_false,getP_leaf]
  ·cases b<;>rfl
 |b::p,[],t,_=>by
  cases b
  ·rw[setP_false];cases t<;>rfl
  ·rw[setP_true];cases t<;>rfl
 |b::p,c::q,t,h=>by
  by_cases hbc:b=c
  ·subst hbc
   have hpq:p≠q:=λe=>h (by rw[e]);cases b
   ·rw[setP_false]
    cases t
    ·simp only[getP_false,getP_leaf,getP_setP_other x p q _ hpq]
    ·simp only[getP_false,getP_setP_other x p q _ hpq]
   ·rw[setP_true]
    cases t
    ·simp only[getP_true,getP_leaf,getP_setP_other x p q _ hpq]
    ·simp only[getP_true,getP_setP_other x p q _ hpq]
  ·cases b<;>cases c<;>first|exact absurd rfl hbc|skip
   ·rw[setP_false];cases t<;>simp only[getP_true,getP_leaf]
   ·rw[setP_true];cases t<;>simp only[getP_false,getP_leaf]
theorem get_set (t:Tree α) (i j:Nat) (x:Option α):(t.set i x).get j=if i=j then x else t.get j:=by
 unfold get set;split
 ·rename_i h;subst h;exact getP_setP_same ..
 ·rename_i h;exact getP_setP_other _ _ _ _ λe=>h (bits_inj e)
theorem get_leaf (i:Nat):(.leaf:Tree α).get i=none:=getP_leaf _
end Tree
theorem lt16 {n:Nat} (h:n<16):n=0\/n=1\/n=2\/n=3\/n=4\/n=5\/n=6\/n=7\/n=8\/n=9\/n=10\/n=11\/n=12\/n=13\/n=14\/n=15:=by omega
theorem accA_law {a b:Nat} (ha:a<16) (hb:b<16) (v:CV) (t:NA):(accA b).get ((accA a).set v t)=if a=b then v else(accA b).get t:=by
 obtain⟨c0,c1,c2,c3,c4,c5,c6,c7,c8,c9,c10,c11,c12,c13,c14,c15⟩:=t;rcases lt16 ha with rfl|rfl|rfl|rfl|rfl|rfl|rfl|rfl|rfl|rfl|rfl|rfl|rfl|rfl|rfl|rfl<;>rcases lt16 hb with rfl|rfl|rfl|rfl|rfl|rfl|rfl|rfl|rfl|rfl|rfl|rfl|rfl|rfl|rfl|rfl<;>rfl
theorem accB_law {a b:Nat} (ha:a<16) (hb:b<16) (v:NA) (t:Tm):(accB b).get ((accB a).set v t)=if a=b then v else(accB b).get t:=by
 obtain⟨c0,c1,c2,c3,c4,c5,c6,c7,c8,c9,c10,c11,c12,c13,c14,c15,r⟩:=t;rcases lt16 ha with rfl|rfl|rfl|rfl|rfl|rfl|rfl|rfl|rfl|rfl|rfl|rfl|rfl|rfl|rfl|rfl<;>rcases lt16 hb with rfl|rfl|rfl|rfl|rfl|rfl|rfl|rfl|rfl|rfl|rfl|rfl|rfl|rfl|rfl|rfl<;>rfl
theorem accB_rest {a:Nat} (ha:a<16) (v:NA) (t:Tm):((accB a).set v t).rest=t.rest:=by
 obtain⟨c0,c1,c2,c3,c4,c5,c6,c7,c8,c9,c10,c11,c12,c13,c14,c15,r⟩:=t;rcases lt16 ha with rfl|rfl|rfl|rfl|rfl|rfl|rfl|rfl|rfl|rfl|rfl|rfl|rfl|rfl|rfl|rfl<;>rfl
theorem accB_setRest {a:Nat} (ha:a<16) (r:Tree CV) (t:Tm):(accB a).get (Tm.setRest r t)=(accB a).get t:=by
 obtain⟨c0,c1,c2,c3,c4,c5,c6,c7,c8,c9,c10,c11,c12,c13,c14,c15,r0⟩:=t;rcases lt16 ha with rfl|rfl|rfl|rfl|rfl|rfl|rfl|rfl|rfl|rfl|rfl|rfl|rfl|rfl|rfl|rfl<;>rfl
theorem Tm.look_put (t:Tm) (i j:Nat) (v:CV):(t.putv i v).look j=if i=j then v else t.look j:=by
 unfold Tm.look Tm.putv;cases hj:Nat.blt j 256 with
 |true=>
  have hj:j<256:=by simpa[Nat.blt_eq]using hj
  cases hi:Nat.blt i 256 with
  |true=>
   have hi:i<256:=by simpa[Nat.blt_eq]using hi
   simp only;rw[accB_law (by omega) (by omega)];by_cases h:i/16=j/16
   ·rw[if_pos h,accA_law (by omega) (by omega)]
    by_cases h2:i%16=j%16
    ·rw[if_pos h2,if_pos (by omega)]
    ·rw[if_neg h2,if_neg (by intro e;exact h2 (by rw[e])),h]
   ·rw[if_neg h,if_neg (by intro e;exact h (by rw[e]))]
  |false=>
   have hi:¬i<256:=by intro e;rw[show Nat.blt i 256=true by simpa[Nat.blt_eq]using e]at hi;cases hi
   simp only;rw[accB_setRest (by omega),if_neg (by omega)]
 |false=>
  have hj:¬j<256:=by intro e;rw[show Nat.blt j 256=true by simpa[Nat.blt_eq]using e]at hj;cases hj
  cases hi:Nat.blt i 256 with
  |true=>
   have hi:i<256:=by simpa[Nat.blt_eq]using hi
   simp only;rw[accB_rest (by omega),if_neg (by omega)]
  |false=>
   simp only;have:(Tm.setRest (t.rest.set i (some v)) t).rest=t.rest.set i (some v):=by cases t;rfl
   rw[this,Tree.get_set];by_cases h:i=j
   ·rw[if_pos h,if_pos h];rfl
   ·rw[if_neg h,if_neg h]
theorem Tm.get_set (t:Tm) (i j:Nat) (v:CV):(t.set i (some v)).get j=if i=j then some v else t.get j:=by
 show some ((t.putv i v).look j)=_;rw[Tm.look_put];by_cases h:i=j
 ·rw[if_pos h,if_pos h]
 ·rw[if_neg h,if_neg h];rfl
theorem Tm.get_leaf (i:Nat):Tm.leaf.get i=some .undef:=by
 show some (Tm.leaf.look i)=_;unfold Tm.look;cases hi:Nat.blt i 256 with
 |true=>
  have h1:i/16<16:=by have hi:i<256:=(by simpa[Nat.blt_eq]using hi);omega
  have h2:i%16<16:=by omega
  simp only;generalize i/16=a at h1;generalize i%16=b at h2;rcases lt16 h1 with rfl|rfl|rfl|rfl|rfl|rfl|rfl|rfl|rfl|rfl|rfl|rfl|rfl|rfl|rfl|rfl<;>rcases lt16 h2 with rfl|rfl|rfl|rfl|rfl|rfl|rfl|rfl|rfl|rfl|rfl|rfl|rfl|rfl|rfl|rfl<;>rfl
 |false=>
  show some (((.leaf:Tree CV).get i).getD .undef)=_;rw[Tree.get_leaf];rfl
theorem Heap.get_put (h:Heap) (i j:Nat) (b:Blk):(h.put i b).get j=if i=j then some b else h.get j:=Tree.get_set ..
theorem Heap.get_del (h:Heap) (i j:Nat):(h.del i).get j=if i=j then none else h.get j:=Tree.get_set ..
theorem Heap.get_new (h:Heap) (j:Nat) (b:Blk):(h.new b).get j=if h.next=j then some b else h.get j:=Tree.get_set ..
section
variable {α:Type}
theorem nth_eq:∀(l:List α) (n:Nat),nth l n=l[n]?
 |[],_=>rfl
 |_::_,0=>rfl
 |_::l,n+1=>nth_eq l n
theorem takeN_eq:∀(l:List α) (n:Nat),takeN l n=if n<=l.length then some (l.take n)else none
 |[],0=>rfl
 |[],_+1=>rfl
 |_::_,0=>rfl
 |c::l,n+1=>by
  show(takeN l n).map (c:: ·)=_;rw[takeN_eq l n];simp only[List.length_cons,Nat.add_le_add_iff_right,List.take_succ_cons];split<;>rfl
theorem dropN_eq:∀(l:List α) (n:Nat),dropN l n=if n<=l.length then some (l.drop n)else none
 |[],0=>rfl
 |[],_+1=>rfl
 |_::_,0=>rfl
 |c::l,n+1=>by
  show dropN l n=_;rw[dropN_eq l n];simp only[List.length_cons,Nat.add_le_add_iff_right,List.drop_succ_cons]
theorem cut_eq (l:List α) (off n:Nat):cut l off n=if off+n<=l.length then some ((l.drop off).take n)else none:=by
 unfold cut;rw[dropN_eq];by_cases h:off<=l.length
 ·simp only[h,if_true,Option.bind_some,takeN_eq,List.length_drop]
  by_cases h2:off+n<=l.length
  ·rw[if_pos (by omega),if_pos h2]
  ·rw[if_neg (by omega),if_neg h2]
 ·simp only[h,if_false,Option.bind_none]
  rw[if_neg (by omega)]
theorem over_eq:∀(vs l:List α),over vs l=if vs.length<=l.length then some (vs++l.drop vs.length)else none
 |[],l=>by simp[over]
 |v::vs,[]=>by simp[over]
 |v::vs,c::l=>by
  show(over vs l).map (v:: ·)=_;rw[over_eq vs l];simp only[List.length_cons,Nat.add_le_add_iff_right,List.drop_succ_cons,List.cons_append];split<;>rfl
theorem setAt_eq:∀(l vs:List α) (n:Nat),setAt l vs n=if n+vs.length<=l.length then some (l.take n++vs++l.drop (n+vs.length))else none
 |[],vs,0=>by show over vs []=_;rw[over_eq];simp
 |[],vs,n+1=>by simp[setAt]
 |c::l,vs,0=>by show over vs (c::l)=_;rw[over_eq];simp
 |c::l,vs,n+1=>by
  show(setAt l vs n).map (c:: ·)=_;rw[setAt_eq l vs n];have e:n+1+vs.length=(n+vs.length)+1:=by omega
  simp only[List.length_cons,e,Nat.add_le_add_iff_right,List.take_succ_cons,List.drop_succ_cons,List.cons_append];split<;>rfl
theorem len_eq:∀(l:List α),len l=l.length
 |[]=>rfl
 |_::l=>congrArg (· +1) (len_eq l)
end
theorem bytesEq_eq:∀(a b:List UInt8),bytesEq a b=decide (a=b)
 |[],[]=>by simp[bytesEq]
 |[],_::_=>by simp[bytesEq]
 |_::_,[]=>by simp[bytesEq]
 |a::x,b::y=>by
  have ih:=bytesEq_eq x y;unfold bytesEq;by_cases h:a=b
  ·subst h
   have:Nat.beq a.toNat a.toNat=true:=Nat.beq_refl _;simp[this,ih]
  ·have:Nat.beq a.toNat b.toNat=false:=by
     rw[<-Bool.not_eq_true];intro e;exact h (UInt8.toNat_inj.1 (Nat.eq_of_beq_eq_true e))
   simp[this,h]
theorem intEq_eq (a b:Int):intEq a b=(a==b):=by
 cases a<;>cases b<;>simp only[intEq]
 ·rw[Bool.eq_iff_iff,Nat.beq_eq];simp only[beq_iff_eq,Int.ofNat.injEq]
 ·rw[eq_comm,beq_eq_false_iff_ne];exact λh=>by cases h
 ·rw[eq_comm,beq_eq_false_iff_ne];exact λh=>by cases h
 ·rw[Bool.eq_iff_iff,Nat.beq_eq];simp only[beq_iff_eq,Int.negSucc.injEq]
theorem intLe_eq (a b:Int):intLe a b=decide (a<=b):=by
 cases a<;>cases b<;>simp only[intLe]
 ·rw[Bool.eq_iff_iff,Nat.ble_eq];simp
 ·rename_i m n
  rw[eq_comm,decide_eq_false_iff_not];have:(Int.ofNat m)=(m:Int):=rfl;omega
 ·rename_i m n
  rw[eq_comm,decide_eq_true_iff];have:(Int.ofNat n)=(n:Int):=rfl;omega
 ·rw[Bool.eq_iff_iff,Nat.ble_eq,decide_eq_true_iff];omega
theorem kindEq_iff {a b:IntKind}:kindEq a b=true↔a=b:=by
 cases a<;>cases b<;>decide
theorem place_eq {n:Int} {l i:Nat} (h:place n l=some i):n=i/\i<l:=by
 unfold place at h;split at h
 ·split at h
  ·rename_i hb
   cases h;exact⟨rfl,by simpa[Nat.blt_eq]using hb⟩
  ·cases h
 ·cases h
theorem upto_eq {n:Int} {l i:Nat} (h:upto n l=some i):n=i/\i<=l:=by
 unfold upto at h;split at h
 ·split at h
  ·rename_i hb
   cases h;exact⟨rfl,Nat.le_of_ble_eq_true hb⟩
  ·cases h
 ·cases h
mutual
theorem cvEq_sound:∀(a b:CV),cvEq a b=true->a=b
 | .undef,b,e=>by cases b<;>first|rfl|(simp[cvEq]at e)
 | .empty,b,e=>by cases b<;>first|rfl|(simp[cvEq]at e)
 | .bool x,b,e=>by cases b<;>simp[cvEq]at e;rw[e]
 | .int k x,b,e=>by
   cases b<;>simp[cvEq]at e;obtain⟨e1,e2⟩:=e;rw[kindEq_iff.1 e1];rw[intEq_eq,beq_iff_eq]at e2;rw[e2]
 | .str x,b,e=>by
   cases b<;>simp[cvEq]at e;rw[bytesEq_eq,decide_eq_true_iff]at e;rw[e]
 | .ptr none,b,e=>by
   cases b with
   |ptr q=>cases q<;>first|rfl|(simp[cvEq]at e)
   |_=>simp[cvEq]at e
 | .ptr (some p),b,e=>by
   cases b with
   |ptr q=>
    cases q with
    |none=>simp[cvEq]at e
    |some q=>
     simp only[cvEq,Bool.and_eq_true]at e;obtain⟨p1,p2⟩:=p;obtain⟨q1,q2⟩:=q;have e1:p1=q1:=Nat.eq_of_beq_eq_true e.1;have e2:p2=q2:=Nat.eq_of_beq_eq_true e.2;rw[e1,e2]
   |_=>simp[cvEq]at e
 | .slice none n c x,b,e=>by
   cases b with
   |slice q n' c' x'=>
    cases q with
    |none=>
     simp only[cvEq,Bool.and_eq_true]at e;rw[Nat.eq_of_beq_eq_true e.1.1,Nat.eq_of_beq_eq_true e.1.2,Nat.eq_of_beq_eq_true e.2]
    |some q=>simp[cvEq]at e
   |_=>simp[cvEq]at e
 | .slice (some p) n c x,b,e=>by
   cases b with
   |slice q n' c' x'=>
    cases q with
    |none=>simp[cvEq]at e
    |some q=>
     simp only[cvEq,Bool.and_eq_true]at e;obtain⟨p1,p2⟩:=p;obtain⟨q1,q2⟩:=q;obtain⟨⟨⟨⟨e1,e2⟩,e3⟩,e4⟩,e5⟩:=e;have e1:p1=q1:=Nat.eq_of_beq_eq_true e1;have e2:p2=q2:=Nat.eq_of_beq_eq_true e2;rw[e1,e2,Nat.eq_of_beq_eq_true e3,Nat.eq_of_beq_eq_true e4,Nat.eq_of_beq_eq_true e5]
   |_=>simp[cvEq]at e
 | .map none,b,e=>by
   cases b with
   |map q=>cases q<;>first|rfl|(simp[cvEq]at e)
   |_=>simp[cvEq]at e
 | .map (some p),b,e=>by
   cases b with
   |map q=>
    cases q with
    |none=>simp[cvEq]at e
    |some q=>simp only[cvEq]at e;rw[Nat.eq_of_beq_eq_true e]
   |_=>simp[cvEq]at e
 | .fn g x y,b,e=>by
   cases b<;>simp[cvEq]at e;rw[e.1.1,cvsEq_sound _ _ e.1.2,cvsEq_sound _ _ e.2]
 | .yield l,b,e=>by cases b<;>simp[cvEq]at e;rw[e]
 | .nilFunc,b,e=>by cases b<;>first|rfl|(simp[cvEq]at e)
 | .iface t x,b,e=>by
   cases b<;>simp[cvEq]at e;rw[e.1,cvEq_sound _ _ e.2]
 | .nilIface,b,e=>by cases b<;>first|rfl|(simp[cvEq]at e)
 | .agg x,b,e=>by
   cases b<;>simp[cvEq]at e;rw[cvsEq_sound _ _ e]
 | .tup x,b,e=>by
   cases b<;>simp[cvEq]at e;rw[cvsEq_sound _ _ e]
theorem cvsEq_sound:∀(a b:List CV),cvsEq a b=true->a=b
 |[],b,e=>by cases b<;>first|rfl|(simp[cvsEq]at e)
 |x::a,b,e=>by
  cases b with
  |nil=>simp[cvsEq]at e
  |cons y b=>
   simp only[cvsEq,Bool.and_eq_true]at e;rw[cvEq_sound _ _ e.1,cvsEq_sound _ _ e.2]
end
theorem mesEq_sound:∀(a b:List ME),mesEq a b=true->a=b
 |[],b,e=>by cases b<;>first|rfl|(simp[mesEq]at e)
 |x::a,b,e=>by
  cases b with
  |nil=>simp[mesEq]at e
  |cons y b=>
   simp only[mesEq,Bool.and_eq_true]at e;obtain⟨⟨⟨e1,e2⟩,e3⟩,e4⟩:=e;obtain⟨k,v,n⟩:=x;obtain⟨k',v',n'⟩:=y;simp only at e1 e2 e3;rw[cvEq_sound _ _ e1,cvEq_sound _ _ e2,Nat.eq_of_beq_eq_true e3,mesEq_sound _ _ e4]
theorem blkEq_sound {a b:Option Blk} (e:blkEq a b=true):a=b:=by
 unfold blkEq at e;split at e
 ·rfl
 ·simp only[Bool.and_eq_true,beq_iff_eq]at e
  rw[cvsEq_sound _ _ e.1,e.2]
 ·simp only[Bool.and_eq_true]at e
  rw[mesEq_sound _ _ e.1,Nat.eq_of_beq_eq_true e.2]
 ·simp only[Bool.and_eq_true]at e
  obtain⟨e1,e2⟩:=e;rw[bytesEq_eq,decide_eq_true_iff]at e1;rw[e1,Nat.eq_of_beq_eq_true e2]
 ·cases e
end Go.CM

noncomputable section
namespace Go.CM
structure Rho where
 loc:Nat->Option (Nat×Nat)
 room:Nat->Nat
instance:CoeFun Rho (λ_=>Nat->Option (Nat×Nat)):=⟨Rho.loc⟩
def mk (b o:Nat):Addr:=⟨b,o,none⟩
theorem mk_add (b o j:Nat):(mk b o).add j=mk b (o+j):=by
 unfold Addr.add mk;split<;>simp_all
inductive VR (ρ:Rho):CV->Value->Prop where
 |undef (x:Value):VR ρ .undef x
 |bool (b:Bool):VR ρ (.bool b) (.bool b)
 |int (k:IntKind) (n:Int):VR ρ (.int k n) (.int k n)
 |str (s:ByteArray):VR ρ (.str s.data.toList) (.string s)
 |nilptr:VR ρ (.ptr none) (.pointer none)
 |ptr (i o k d:Nat) (h:ρ i=some (k,d)):VR ρ (.ptr (some (i,o))) (.pointer (some (mk k (d+o))))
 |nilslice (n c x c':Nat) (h:c<=c') (hx:x=0->c'=c) (hn:n<=c) (hm:c'<=9223372036854775807):VR ρ (.slice none n c x) (.slice none n c')
 |slice (i o n c x k d c':Nat) (hi:ρ i=some (k,d)) (h:c<=c') (hx:x=0->c'=c) (hr:x≠0->c'*x+o<=ρ.room i) (hn:n<=c) (hm:c'<=9223372036854775807):VR ρ (.slice (some (i,o)) n c x) (.slice (some (mk k (d+o))) n c')
 |empty (p:Addr) (c':Nat) (hm:c'<=9223372036854775807):VR ρ .empty (.slice (some p) 0 c')
 |nilmap:VR ρ (.map none) (.map none)
 |map (i k:Nat) (h:ρ i=some (k,0)):VR ρ (.map (some i)) (.map (some k))
 |fn (f:FuncId) (first caps:List CV) (a1 a2:Array Value) (hl1:a1.size=first.length) (hl2:a2.size=caps.length)
  (hr1:∀i,i<first.length->VR ρ (first.getD i .undef) (a1.getD i Go.undef)) (hr2:∀i,i<caps.length->VR ρ (caps.getD i .undef) (a2.getD i Go.undef)):VR ρ (.fn f first caps) (.func (.func f) a1 a2)
 |yield (i l:Nat) (h:ρ i=some (l,0)):VR ρ (.yield i) (.func (.yield l) #[] #[])
 |nilFunc:VR ρ .nilFunc .nilFunc
 |iface (t:TypeId) (v:CV) (x:Value) (h:VR ρ v x):VR ρ (.iface t v) (.iface t x)
 |nilIface:VR ρ .nilIface .nilIface
 |agg (cs:List CV) (arr:Array Value) (hl:arr.size=cs.length) (hr:∀i,i<cs.length->VR ρ (cs.getD i .undef) (arr.getD i Go.undef)) (h1:∀i,i<cs.length->(cs.getD i .undef).one=true):VR ρ (.agg cs) (.agg arr)
 |tup (cs:List CV) (arr:Array Value) (hl:arr.size=cs.length) (hr:∀i,i<cs.length->VR ρ (cs.getD i .undef) (arr.getD i Go.undef)):VR ρ (.tup cs) (.tuple arr)
def Sub (ρ ρ':Rho):Prop:=∀i p,ρ i=some p->ρ' i=some p/\ρ'.room i=ρ.room i
theorem Sub.refl (ρ:Rho):Sub ρ ρ:=λ_ _ h=>⟨h,rfl⟩
theorem Sub.trans {a b c:Rho} (h:Sub a b) (k:Sub b c):Sub a c:=λi p x=>⟨(k i p (h i p x).1).1,(k i p (h i p x).1).2.trans (h i p x).2⟩
theorem VR.mono {ρ ρ':Rho} (s:Sub ρ ρ') {v:CV} {x:Value} (h:VR ρ v x):VR ρ' v x:=by
 induction h with
 |undef x=>exact .undef x
 |bool b=>exact .bool b
 |int k n=>exact .int k n
 |str x=>exact .str x
 |nilptr=>exact .nilptr
 |ptr i o k d h=>exact .ptr i o k d (s _ _ h).1
 |nilslice n c x c' h hx hn hm=>exact .nilslice n c x c' h hx hn hm
 |slice i o n c x k d c' hi h hx hr hn hm=>exact .slice i o n c x k d c' (s _ _ hi).1 h hx (λe=>by rw[(s _ _ hi).2];exact hr e) hn hm
 |empty p c' hm=>exact .empty p c' hm
 |nilmap=>exact .nilmap
 |map i k h=>exact .map i k (s _ _ h).1
 |fn f first caps a1 a2 hl1 hl2 hr1 hr2 ih1 ih2=>exact .fn f first caps a1 a2 hl1 hl2 ih1 ih2
 |yield i l h=>exact .yield i l (s _ _ h).1
 |nilFunc=>exact .nilFunc
 |iface t v x h ih=>exact .iface t v x ih
 |nilIface=>exact .nilIface
 |agg cs arr hl hr h1 ih=>exact .agg cs arr hl ih h1
 |tup cs arr hl hr ih=>exact .tup cs arr hl ih
theorem VR.oneCell {ρ:Rho} {v:CV} {x:Value} (h:VR ρ v x) (h1:v.one=true):x.oneCell'=true:=by
 cases h<;>first|rfl|cases h1
def VRs (ρ:Rho) (vs:List CV) (xs:List Value):Prop:=xs.length=vs.length/\∀i,i<vs.length->VR ρ (vs.getD i .undef) (xs.getD i undef)
theorem VRs.nil (ρ:Rho):VRs ρ [] []:=⟨rfl,λi hi=>absurd hi (by simp)⟩
theorem VRs.cons {ρ:Rho} {v:CV} {x:Value} {vs:List CV} {xs:List Value} (h:VR ρ v x) (t:VRs ρ vs xs):VRs ρ (v::vs) (x::xs):=by
 refine⟨by simp[t.1],λi hi=> ?_⟩;cases i with
 |zero=>simpa using h
 |succ i=>simpa using t.2 i (by simpa using hi)
theorem VRs.head {ρ:Rho} {v:CV} {vs:List CV} {xs:List Value} (h:VRs ρ (v::vs) xs):∃x r,xs=x::r/\VR ρ v x/\VRs ρ vs r:=by
 cases xs with
 |nil=>have:=h.1;simp at this
 |cons x r=>
  refine⟨x,r,rfl,by simpa using h.2 0 (by simp),by simpa using h.1,λi hi=> ?_⟩;simpa using h.2 (i+1) (by simpa using hi)
theorem VRs.of_nil {ρ:Rho} {xs:List Value} (h:VRs ρ [] xs):xs=[]:=List.eq_nil_of_length_eq_zero (by simpa using h.1)
theorem VRs.append {ρ:Rho} {a b:List CV} {x y:List Value} (h:VRs ρ a x) (k:VRs ρ b y):VRs ρ (a++b) (x++y):=by
 induction a generalizing x with
 |nil=>rw[h.of_nil];simpa using k
 |cons v a ih=>
  obtain⟨x0,r,rfl,h1,h2⟩:=h.head;exact VRs.cons h1 (ih h2)
theorem VRs.mono {ρ ρ':Rho} (s:Sub ρ ρ') {vs:List CV} {xs:List Value} (h:VRs ρ vs xs):VRs ρ' vs xs:=⟨h.1,λi hi=>(h.2 i hi).mono s⟩
theorem VRs.drop {ρ:Rho}:∀(n:Nat) {a:List CV} {x:List Value},VRs ρ a x->VRs ρ (a.drop n) (x.drop n)
 |0,_,_,h=>h
 |n+1,[],x,h=>by rw[h.of_nil];simpa using VRs.nil ρ
 |n+1,v::a,x,h=>by
  obtain⟨x0,r,rfl,h1,h2⟩:=h.head;exact VRs.drop n h2
theorem VRs.take {ρ:Rho}:∀(n:Nat) {a:List CV} {x:List Value},VRs ρ a x->VRs ρ (a.take n) (x.take n)
 |0,_,_,_=>by simpa using VRs.nil ρ
 |n+1,[],x,h=>by rw[h.of_nil];simpa using VRs.nil ρ
 |n+1,v::a,x,h=>by
  obtain⟨x0,r,rfl,h1,h2⟩:=h.head;exact VRs.cons h1 (VRs.take n h2)
theorem VRs.get {ρ:Rho} {a:List CV} {x:List Value} (h:VRs ρ a x) {i:Nat} {v:CV} (hv:a[i]? =some v):∃y,x[i]? =some y/\VR ρ v y:=by
 obtain⟨hi,rfl⟩:=List.getElem?_eq_some_iff.1 hv;have h2:=h.2 i hi;have hx:i<x.length:=by rw[h.1];exact hi
 refine⟨x[i],List.getElem?_eq_getElem hx,?_⟩;simpa[List.getD_eq_getElem?_getD,hi,hx]using h2
def stOf:Nat->LoopState
 |0=> .ready
 |1=> .busy
 |2=> .done
 |_=> .exhausted
structure LoopR (ρ:Rho) (tm:Tm) (ps:List Nat) (asg body:Code) (st:Nat) (pend:Option Code) (r:Loop):Prop where
 estate:r.state=stOf st
 epend:r.pending=pend
 eps:r.params.toList=ps
 easg:r.assign=asg
 ebody:r.body=body
 tmp:∀t,VR ρ ((tm.get t).getD .undef) (r.tmps.getD t undef)
 ok:(∀p∈ps,p<r.tmps.size)/\dstsOk r.tmps.size asg=true/\dstsOk r.tmps.size body=true/\noRange asg=true/\noRange body=true
def BlkRel (ρ:Rho) (w:World) (k d r:Nat):Blk->Prop
 | .cells cs ro=>∃arr ty fz,w.heap[k]? =some (.cells arr ty fz)/\(d+cs.length<=arr.size/\d+r<=arr.size)/\VRs ρ cs ((arr.toList.drop d).take cs.length)/\(∀c∈cs,c.one=true)/\(ro=false->fz=(0,0))
 | .map es clock=>d=0/\∃ms,w.heap[k]? =some (.map ms clock)/\VRs ρ (es.map (·.key)) (ms.toList.map (·.key))/\VRs ρ (es.map (·.val)) (ms.toList.map (·.val))/\es.map (·.born)=ms.toList.map (·.born)
 | .strIter s pos=>d=0/\∃b,w.heap[k]? =some (.stringIter b pos)/\b.data.toList=s
 | .loop tm ps asg body st pend=>d=0/\∃r,w.heap[k]? =some (.loop r)/\LoopR ρ tm ps asg body st pend r
theorem BlkRel.later {ρ ρ':Rho} {w w':World} {k d n:Nat} {b:Blk} (s:Sub ρ ρ') (h:w'.heap[k]? =w.heap[k]?) (r:BlkRel ρ w k d n b):BlkRel ρ' w' k d n b:=by
 cases b with
 |cells cs ro=>
  obtain⟨arr,ty,fz,h1,h2,h3,h4,h5⟩:=r;exact⟨arr,ty,fz,h.trans h1,h2,h3.mono s,h4,h5⟩
 |map es c=>
  obtain⟨h0,ms,h1,h2,h3,h4⟩:=r;exact⟨h0,ms,h.trans h1,h2.mono s,h3.mono s,h4⟩
 |strIter x p=>
  obtain⟨h0,b,h1,h2⟩:=r;exact⟨h0,b,h.trans h1,h2⟩
 |loop tm ps asg body st pend=>
  obtain⟨h0,r,h1,h2⟩:=r;exact⟨h0,r,h.trans h1,⟨h2.estate,h2.epend,h2.eps,h2.easg,h2.ebody,λt=>(h2.tmp t).mono s,h2.ok⟩⟩
def Blk.ro:Blk->Bool
 | .cells _ r=>r
 |_=>false
structure HR (ρ:Rho) (h:Heap) (w:World):Prop where
 blk:∀i b,h.get i=some b->∃k d,ρ i=some (k,d)/\BlkRel ρ w k d (ρ.room i) b
 inj:∀i j k d e b c,h.get i=some b->h.get j=some c->(b.ro=false\/c.ro=false)->ρ i=some (k,d)->ρ j=some (k,e)->i=j
 fresh:∀i,h.next<=i->ρ i=none
 lt:∀i k d,ρ i=some (k,d)->k<w.heap.size
def LiveW (ρ:Rho) (h:Heap) (b:Nat):Prop:=∃j d c,h.get j=some c/\c.ro=false/\ρ j=some (b,d)
def Live (ρ:Rho) (h:Heap) (b:Nat):Prop:=∃j d,h.get j≠none/\ρ j=some (b,d)
structure Keep (L:Nat->Prop) (w w':World):Prop where
 os:w'.os=w.os
 out:w'.output=w.output
 size:w.heap.size<=w'.heap.size
 same:∀b,b<w.heap.size->¬L b->w'.heap[b]? =w.heap[b]?
theorem Keep.refl (L:Nat->Prop) (w:World):Keep L w w:=⟨rfl,rfl,Nat.le_refl _,λ_ _ _=>rfl⟩
structure J (ρ:Rho) (h:Heap) (w:World) (ρ':Rho) (h':Heap) (w':World):Prop where
 ext:∀i,i<h.next->ρ' i=ρ i/\ρ'.room i=ρ.room i
 next:h.next<=h'.next
 hr:HR ρ' h' w'
 keep:Keep (LiveW ρ h) w w'
 own:∀b,Live ρ' h' b->w.heap.size<=b\/Live ρ h b
 ownW:∀b,LiveW ρ' h' b->w.heap.size<=b\/LiveW ρ h b
theorem J.refl {ρ:Rho} {h:Heap} {w:World} (hr:HR ρ h w):J ρ h w ρ h w:=⟨λ_ _=>⟨rfl,rfl⟩,Nat.le_refl _,hr,Keep.refl _ _,λ_ h=> .inr h,λ_ h=> .inr h⟩
theorem J.sub {ρ ρ':Rho} {h h':Heap} {w w':World} (hr:HR ρ h w) (j:J ρ h w ρ' h' w'):Sub ρ ρ':=by
 intro i p hp;rcases Nat.lt_or_ge i h.next with hi|hi
 ·rw[(j.ext i hi).1];exact⟨hp,(j.ext i hi).2⟩
 ·rw[hr.fresh i hi]at hp;cases hp
theorem J.trans {ρ ρ1 ρ2:Rho} {h h1 h2:Heap} {w w1 w2:World} (a:J ρ h w ρ1 h1 w1) (b:J ρ1 h1 w1 ρ2 h2 w2):J ρ h w ρ2 h2 w2:=by
 refine⟨λi hi=>⟨(b.ext i (Nat.lt_of_lt_of_le hi a.next)).1.trans (a.ext i hi).1,(b.ext i (Nat.lt_of_lt_of_le hi a.next)).2.trans (a.ext i hi).2⟩,Nat.le_trans a.next b.next,b.hr,⟨b.keep.os.trans a.keep.os,b.keep.out.trans a.keep.out,Nat.le_trans a.keep.size b.keep.size,λk hk hl=> ?_⟩,λk hk=> ?_,λk hk=> ?_⟩
 ·rw[b.keep.same k (Nat.lt_of_lt_of_le hk a.keep.size) ?_,a.keep.same k hk hl]
  intro hl1;rcases a.ownW k hl1 with h|h
  ·omega
  ·exact hl h
 ·rcases b.own k hk with h|h
  ·exact .inl (Nat.le_trans a.keep.size h)
  ·exact a.own k h
 ·rcases b.ownW k hk with h|h
  ·exact .inl (Nat.le_trans a.keep.size h)
  ·exact a.ownW k h
theorem HR.of_heap {ρ:Rho} {h:Heap} {w w':World} (hr:HR ρ h w) (e:w'.heap=w.heap):HR ρ h w':=
 ⟨λi b hb=>let ⟨k,d,h1,h2⟩:=hr.blk i b hb;⟨k,d,h1,h2.later (Sub.refl _) (by rw[e])⟩,hr.inj,hr.fresh,λi k d hk=>by rw[e];exact hr.lt i k d hk⟩
def upd (ρ:Rho) (n:Nat) (p:Nat×Nat) (r:Nat):Rho:=⟨λi=>if i=n then some p else ρ i,λi=>if i=n then r else ρ.room i⟩
theorem upd_same (ρ:Rho) (n:Nat) (p:Nat×Nat) (r:Nat):upd ρ n p r n=some p:=by simp[upd]
theorem upd_other (ρ:Rho) (n:Nat) (p:Nat×Nat) (r:Nat) {i:Nat} (h:i≠n):upd ρ n p r i=ρ i:=by simp[upd,h]
theorem upd_room (ρ:Rho) (n:Nat) (p:Nat×Nat) (r:Nat):(upd ρ n p r).room n=r:=by simp[upd]
theorem upd_room' (ρ:Rho) (n:Nat) (p:Nat×Nat) (r:Nat) {i:Nat} (h:i≠n):(upd ρ n p r).room i=ρ.room i:=by simp[upd,h]
theorem HR.sub {ρ:Rho} {h:Heap} {w:World} (hr:HR ρ h w) (p:Nat×Nat) (r:Nat):Sub ρ (upd ρ h.next p r):=by
 intro i q hq
 have hi:i≠h.next:=by
  intro e;subst e;rw[hr.fresh _ (Nat.le_refl _)]at hq;cases hq
 rw[upd_other _ _ _ _ hi,upd_room' _ _ _ _ hi];exact⟨hq,rfl⟩
theorem J.put {ρ:Rho} {h:Heap} {w w':World} (hr:HR ρ h w) {i k d:Nat} {b b':Blk} (hb:h.get i=some b) (hro:b.ro=false) (hi:ρ i=some (k,d))
  (hos:w'.os=w.os) (hout:w'.output=w.output) (hsz:w'.heap.size=w.heap.size) (hother:∀x,x≠k->w'.heap[x]? =w.heap[x]?) (hnew:BlkRel ρ w' k d (ρ.room i) b'):J ρ h w ρ (h.put i b') w':=by
 have live:∀j,(h.put i b').get j≠none->h.get j≠none:=by
  intro j hj;rw[Heap.get_put]at hj;by_cases e:i=j
  ·subst e;rw[hb];simp
  ·rwa[if_neg e]at hj
 have livb:∀j c,(h.put i b').get j=some c->∃c0,h.get j=some c0/\(c.ro=false->c0.ro=false):=by
  intro j c hj;rw[Heap.get_put]at hj;by_cases e:i=j
  ·subst e;exact⟨b,hb,λ_=>hro⟩
  ·rw[if_neg e]at hj;exact⟨c,hj,λh=>h⟩
 refine⟨λ_ _=>⟨rfl,rfl⟩,Nat.le_refl _,⟨λj c hj=> ?_,λx y k d e bx cy hx hy hn=>by
  obtain⟨b0,g0,r0⟩:=livb x bx hx;obtain⟨c0,g1,r1⟩:=livb y cy hy;exact hr.inj x y k d e b0 c0 g0 g1 (hn.imp r0 r1),hr.fresh,λx y z hx=>by rw[hsz];exact hr.lt x y z hx⟩,⟨hos,hout,by omega,λx hx hl=> ?_⟩,λx hx=> ?_,λx hx=> ?_⟩
 ·rw[Heap.get_put]at hj
  by_cases e:i=j
  ·subst e
   rw[if_pos rfl]at hj;cases hj;exact⟨k,d,hi,hnew⟩
  ·rw[if_neg e]at hj
   obtain⟨k2,d2,h1,h2⟩:=hr.blk j c hj;refine⟨k2,d2,h1,h2.later (Sub.refl _) (hother k2 ?_)⟩;intro hk;subst hk;exact e (hr.inj i j k2 d d2 b c hb hj (.inl hro) hi h1)
 ·exact hother x λe=>hl ⟨i,d,b,hb,hro,by rw[e];exact hi⟩
 ·obtain⟨j,e,h1,h2⟩:=hx
  exact .inr ⟨j,e,live j h1,h2⟩
 ·obtain⟨j,e,c,h1,h2,h3⟩:=hx
  rw[Heap.get_put]at h1;by_cases e0:i=j
  ·subst e0
   exact .inr ⟨i,e,b,hb,hro,h3⟩
  ·rw[if_neg e0]at h1
   exact .inr ⟨j,e,c,h1,h2,h3⟩
theorem J.new {ρ:Rho} {h:Heap} {w w':World} (hr:HR ρ h w) {b:Blk} (r:Nat)
  (hos:w'.os=w.os) (hout:w'.output=w.output) (hsz:w.heap.size<w'.heap.size) (hother:∀x,x<w.heap.size->w'.heap[x]? =w.heap[x]?) (hnew:BlkRel (upd ρ h.next (w.heap.size,0) r) w' w.heap.size 0 r b):
  J ρ h w (upd ρ h.next (w.heap.size,0) r) (h.new b) w':=by
 have hs:=hr.sub (w.heap.size,0) r;have old:∀{j k d},upd ρ h.next (w.heap.size,0) r j=some (k,d)->j≠h.next->ρ j=some (k,d):=λhj e=>by rwa[upd_other _ _ _ _ e]at hj
 refine⟨λi hi=>⟨upd_other _ _ _ _ (by omega),upd_room' _ _ _ _ (by omega)⟩,Nat.le_succ _,⟨λj c hj=> ?_,λx y k d e bx cy hx hy hn h1 h2=> ?_,λi hi=> ?_,λx y z hx=> ?_⟩,⟨hos,hout,by omega,λx hx _=>hother x hx⟩,λx hx=> ?_,λx hx=> ?_⟩
 ·rw[Heap.get_new]at hj
  by_cases e:h.next=j
  ·subst e
   rw[if_pos rfl]at hj;cases hj;exact⟨_,_,upd_same _ _ _ _,by rw[upd_room];exact hnew⟩
  ·rw[if_neg e]at hj
   obtain⟨k2,d2,h1,h2⟩:=hr.blk j c hj;refine⟨k2,d2,(hs _ _ h1).1,?_⟩;rw[(hs _ _ h1).2];exact h2.later hs (hother k2 (hr.lt _ _ _ h1))
 ·rw[Heap.get_new]at hx hy
  by_cases ex:h.next=x<;>by_cases ey:h.next=y
  ·rw[<-ex,<-ey]
  ·subst ex
   rw[upd_same]at h1;have:=hr.lt _ _ _ (old h2 (Ne.symm ey));cases h1;omega
  ·subst ey
   rw[upd_same]at h2;have:=hr.lt _ _ _ (old h1 (Ne.symm ex));cases h2;omega
  ·rw[if_neg ex]at hx
   rw[if_neg ey]at hy;exact hr.inj x y k d e bx cy hx hy hn (old h1 (Ne.symm ex)) (old h2 (Ne.symm ey))
 ·have hi:h.next+1<=i:=hi
  rw[upd_other _ _ _ _ (by omega)];exact hr.fresh i (by omega)
 ·by_cases e:x=h.next
  ·subst e
   rw[upd_same]at hx;cases hx;exact hsz
  ·have:=hr.lt _ _ _ (old hx e)
   omega
 ·obtain⟨j,e,h1,h2⟩:=hx
  by_cases ej:j=h.next
  ·subst ej
   rw[upd_same]at h2;cases h2;exact .inl (Nat.le_refl _)
  ·rw[Heap.get_new,if_neg (Ne.symm ej)]at h1
   exact .inr ⟨j,e,h1,old h2 ej⟩
 ·obtain⟨j,e,c,h1,h0,h2⟩:=hx
  by_cases ej:j=h.next
  ·subst ej
   rw[upd_same]at h2;cases h2;exact .inl (Nat.le_refl _)
  ·rw[Heap.get_new,if_neg (Ne.symm ej)]at h1
   exact .inr ⟨j,e,c,h1,h0,old h2 ej⟩
theorem J.move {ρ:Rho} {h:Heap} {w w':World} (hr:HR ρ h w) {i k d d':Nat} {b b':Blk} (r:Nat) (hb:h.get i=some b) (hro:b.ro=false) (hi:ρ i=some (k,d))
  (hos:w'.os=w.os) (hout:w'.output=w.output) (hsz:w'.heap.size=w.heap.size) (hother:∀x,x≠k->w'.heap[x]? =w.heap[x]?) (hnew:BlkRel (upd ρ h.next (k,d') r) w' k d' r b'):
  J ρ h w (upd ρ h.next (k,d') r) ((h.del i).new b') w':=by
 have hs:=hr.sub (k,d') r;have hin:i≠h.next:=by intro e;subst e;rw[hr.fresh _ (Nat.le_refl _)]at hi;cases hi
 have old:∀{j x y},upd ρ h.next (k,d') r j=some (x,y)->j≠h.next->ρ j=some (x,y):=λhj e=>by rwa[upd_other _ _ _ _ e]at hj
 have get:∀j,((h.del i).new b').get j=if h.next=j then some b' else if i=j then none else h.get j:=by
  intro j;rw[Heap.get_new];show(if h.next=j then some b' else(h.del i).get j)=_
  rw[Heap.get_del]
 refine⟨λj hj=>⟨upd_other _ _ _ _ (by omega),upd_room' _ _ _ _ (by omega)⟩,Nat.le_succ _,⟨λj c hj=> ?_,λx y k2 d2 e bx cy hx hy hn h1 h2=> ?_,λj hj=> ?_,λx y z hx=> ?_⟩,⟨hos,hout,by omega,λx hx hl=> ?_⟩,λx hx=> ?_,λx hx=> ?_⟩
 ·rw[get]at hj
  by_cases e:h.next=j
  ·subst e
   rw[if_pos rfl]at hj;cases hj;exact⟨_,_,upd_same _ _ _ _,by rw[upd_room];exact hnew⟩
  ·rw[if_neg e]at hj
   by_cases e2:i=j
   ·rw[if_pos e2]at hj;cases hj
   ·rw[if_neg e2]at hj
    obtain⟨k2,d2,h1,h2⟩:=hr.blk j c hj;refine⟨k2,d2,(hs _ _ h1).1,?_⟩;rw[(hs _ _ h1).2];refine h2.later hs (hother k2 ?_);intro hk;subst hk;exact e2 (hr.inj i j k2 d d2 b c hb hj (.inl hro) hi h1)
 ·rw[get]at hx hy
  have key:∀z e bz,z≠h.next->i≠z->h.get z=some bz->ρ z=some (k,e)->False:=λz e bz _ hz hg hz2=>hz (hr.inj i z k d e b bz hb hg (.inl hro) hi hz2);by_cases ex:h.next=x<;>by_cases ey:h.next=y
  ·rw[<-ex,<-ey]
  ·subst ex
   rw[upd_same]at h1;cases h1;rw[if_neg ey]at hy;by_cases e2:i=y
   ·rw[if_pos e2]at hy;cases hy
   ·rw[if_neg e2]at hy
    exact(key y e cy (Ne.symm ey) e2 hy (old h2 (Ne.symm ey))).elim
  ·subst ey
   rw[upd_same]at h2;cases h2;rw[if_neg ex]at hx;by_cases e2:i=x
   ·rw[if_pos e2]at hx;cases hx
   ·rw[if_neg e2]at hx
    exact(key x d2 bx (Ne.symm ex) e2 hx (old h1 (Ne.symm ex))).elim
  ·rw[if_neg ex]at hx
   rw[if_neg ey]at hy;by_cases e2:i=x
   ·rw[if_pos e2]at hx;cases hx
   ·by_cases e3:i=y
    ·rw[if_pos e3]at hy;cases hy
    ·rw[if_neg e2]at hx
     rw[if_neg e3]at hy;exact hr.inj x y k2 d2 e bx cy hx hy hn (old h1 (Ne.symm ex)) (old h2 (Ne.symm ey))
 ·have hj:h.next+1<=j:=hj
  rw[upd_other _ _ _ _ (by omega)];exact hr.fresh j (by omega)
 ·by_cases e:x=h.next
  ·subst e
   rw[upd_same]at hx;cases hx;have:=hr.lt _ _ _ hi;omega
  ·have:=hr.lt _ _ _ (old hx e)
   omega
 ·exact hother x λe=>hl ⟨i,d,b,hb,hro,by rw[e];exact hi⟩
 ·obtain⟨j,e,h1,h2⟩:=hx
  by_cases ej:j=h.next
  ·subst ej
   rw[upd_same]at h2;cases h2;exact .inr ⟨i,d,by rw[hb];simp,hi⟩
  ·rw[get,if_neg (Ne.symm ej)]at h1
   by_cases e2:i=j
   ·rw[if_pos e2]at h1;exact absurd rfl h1
   ·rw[if_neg e2]at h1
    exact .inr ⟨j,e,h1,old h2 ej⟩
 ·obtain⟨j,e,c,h1,h0,h2⟩:=hx
  by_cases ej:j=h.next
  ·subst ej
   rw[upd_same]at h2;cases h2;exact .inr ⟨i,d,b,hb,hro,hi⟩
  ·rw[get,if_neg (Ne.symm ej)]at h1
   by_cases e2:i=j
   ·rw[if_pos e2]at h1;cases h1
   ·rw[if_neg e2]at h1
    exact .inr ⟨j,e,c,h1,h0,old h2 ej⟩
theorem J.gone {ρ:Rho} {h:Heap} {w:World} (hr:HR ρ h w) (i:Nat):J ρ h w ρ (h.del i) w:=by
 have live:∀j,(h.del i).get j≠none->h.get j≠none:=by
  intro j hj;rw[Heap.get_del]at hj;by_cases e:i=j
  ·rw[if_pos e]at hj;exact absurd rfl hj
  ·rwa[if_neg e]at hj
 have livb:∀j c,(h.del i).get j=some c->h.get j=some c:=by
  intro j c hj;rw[Heap.get_del]at hj;by_cases e:i=j
  ·rw[if_pos e]at hj;cases hj
  ·rwa[if_neg e]at hj
 refine⟨λ_ _=>⟨rfl,rfl⟩,Nat.le_refl _,⟨λj c hj=> ?_,λx y k d e bx cy hx hy hn=>hr.inj x y k d e bx cy (livb x bx hx) (livb y cy hy) hn,hr.fresh,hr.lt⟩,Keep.refl _ _,λx ⟨j,e,h1,h2⟩=> .inr ⟨j,e,live j h1,h2⟩,λx ⟨j,e,c,h1,h0,h2⟩=> .inr ⟨j,e,c,(by rw[Heap.get_del]at h1;split at h1<;>first|cases h1|exact h1),h0,h2⟩⟩;rw[Heap.get_del]at hj;by_cases e:i=j
 ·rw[if_pos e]at hj;cases hj
 ·rw[if_neg e]at hj
  exact hr.blk j c hj
theorem J.grow {ρ:Rho} {h:Heap} {w w':World} (hr:HR ρ h w) (hos:w'.os=w.os) (hout:w'.output=w.output) (hsz:w.heap.size<=w'.heap.size) (hother:∀x,x<w.heap.size->w'.heap[x]? =w.heap[x]?):J ρ h w ρ h w':=
 ⟨λ_ _=>⟨rfl,rfl⟩,Nat.le_refl _,⟨λi b hb=>by
  obtain⟨k,d,h1,h2⟩:=hr.blk i b hb;exact⟨k,d,h1,h2.later (Sub.refl _) (hother k (hr.lt _ _ _ h1))⟩,hr.inj,hr.fresh,λi k d hk=>Nat.lt_of_lt_of_le (hr.lt i k d hk) hsz⟩,⟨hos,hout,hsz,λb hb _=>hother b hb⟩,λ_ h=> .inr h,λ_ h=> .inr h⟩
theorem J.goneW {ρ:Rho} {h:Heap} {w w':World} (hr:HR ρ h w) {i k d:Nat} {b:Blk} (hb:h.get i=some b) (hro:b.ro=false) (hi:ρ i=some (k,d))
  (hos:w'.os=w.os) (hout:w'.output=w.output) (hsz:w'.heap.size=w.heap.size) (hother:∀x,x≠k->w'.heap[x]? =w.heap[x]?):J ρ h w ρ (h.del i) w':=by
 have live:∀j c,(h.del i).get j=some c->i≠j/\h.get j=some c:=by
  intro j c hj;rw[Heap.get_del]at hj;by_cases e:i=j
  ·rw[if_pos e]at hj;cases hj
  ·rw[if_neg e]at hj;exact⟨e,hj⟩
 have liven:∀j,(h.del i).get j≠none->h.get j≠none:=by
  intro j hj;obtain⟨c,hc⟩:=Option.ne_none_iff_exists'.1 hj;rw[(live j c hc).2];simp
 refine⟨λ_ _=>⟨rfl,rfl⟩,Nat.le_refl _,⟨λj c hj=> ?_,λx y k d e bx cy hx hy hn=>hr.inj x y k d e bx cy (live x bx hx).2 (live y cy hy).2 hn,hr.fresh,λx y z hx=>by rw[hsz];exact hr.lt x y z hx⟩,⟨hos,hout,by omega,λx hx hl=> ?_⟩,λx hx=> ?_,λx hx=> ?_⟩
 ·obtain⟨e,hj⟩:=live j c hj
  obtain⟨k2,d2,h1,h2⟩:=hr.blk j c hj;refine⟨k2,d2,h1,h2.later (Sub.refl _) (hother k2 ?_)⟩;intro hk;subst hk;exact e (hr.inj i j k2 d d2 b c hb hj (.inl hro) hi h1)
 ·exact hother x λe=>hl ⟨i,d,b,hb,hro,by rw[e];exact hi⟩
 ·obtain⟨j,e,h1,h2⟩:=hx
  exact .inr ⟨j,e,liven j h1,h2⟩
 ·obtain⟨j,e,c,h1,h2,h3⟩:=hx
  exact .inr ⟨j,e,c,(live j c h1).2,h2,h3⟩
theorem VR.flat {ρ ρ':Rho} {v:CV} {x:Value} (hv:v.flat=true) (h:VR ρ v x):VR ρ' v x:=by
 cases h with
 |bool b=>exact .bool b
 |int k n=>exact .int k n
 |str s=>exact .str s
 |_=>cases hv
theorem all_getD {cs:List CV} {p:CV->Bool} (h:cs.all p=true) {i:Nat} (hi:i<cs.length):p (cs.getD i .undef)=true:=by
 have e:cs.getD i .undef=cs[i]:=by simp[List.getD_eq_getElem?_getD,hi]
 rw[e];exact List.all_eq_true.1 h _ (List.getElem_mem hi)
theorem VR.plain {ρ ρ':Rho} {v:CV} {x:Value} (hv:v.plain=true) (h:VR ρ v x):VR ρ' v x:=by
 cases h with
 |bool b=>exact .bool b
 |int k n=>exact .int k n
 |str s=>exact .str s
 |agg cs arr hl hr h1=>exact .agg cs arr hl (λi hi=>(hr i hi).flat (all_getD hv hi)) h1
 |tup cs arr hl hr=>exact .tup cs arr hl (λi hi=>(hr i hi).flat (all_getD hv hi))
 |_=>cases hv
theorem VRs.plain {ρ ρ':Rho} {vs:List CV} {xs:List Value} (hv:vs.all CV.plain=true) (h:VRs ρ vs xs):VRs ρ' vs xs:=⟨h.1,λi hi=>(h.2 i hi).plain (all_getD hv hi)⟩
def rho0 (g:Nat):Rho:=⟨λi=>if i<g then some (i,0)else none,λ_=>0⟩
def RowsAt (w:World) (rows:List (Nat×List CV)) (ρ:Rho):Prop:=∀r∈rows,∃arr ty fz,w.heap[r.1]? =some (.cells arr ty fz)/\r.2.length<=arr.size/\VRs ρ r.2 (arr.toList.take r.2.length)/\∀c∈r.2,c.one=true
end Go.CM
