/- What the plain machine's values and memory say of a world. No condition. -/
import Derived.Test.YtnjkaahbhebaeaaGreatDoorCmA
import Derived.Below
import Derived.IntWalk
import Derived.Calls
import Derived.Laws.AppendOwn
import Derived.Laws.MakeOwn
import Derived.Laws.CopyRow
import Derived.Laws.Rows
import Derived.Laws.Cells
set_option linter.unusedVariables false
set_option linter.unusedSimpArgs false
noncomputable section
namespace Go.CM
theorem bitsF_succ (n k:Nat):bitsF (n+1) (k+1)=Nat.beq (k%2) 0::bitsF n (k/2):=rfl
def unbits:List Bool->Nat
 |[]=>0
 |true::r=>2*unbits r+1
 |false::r=>2*unbits r+2
theorem unbits_bitsF:∀n k,k<=n->unbits (bitsF n k)=k
 |0,k,h=>by have:k=0:=by omega
            subst this;rfl
 |n+1,0,_=>rfl
 |n+1,k+1,h=>by
  rw[bitsF_succ];have ih:=unbits_bitsF n (k/2) (by omega);cases hb:Nat.beq (k%2) 0
  ·have:k%2≠0:=by intro e;rw[e]at hb;cases hb
   simp only[unbits,ih];omega
  ·have:k%2=0:=Nat.eq_of_beq_eq_true hb
   simp only[unbits,ih];omega
theorem bits_inj {i j:Nat} (h:bits i=bits j):i=j:=by
 have h1:=unbits_bitsF (i+1) i (by omega);have h2:=unbits_bitsF (j+1) j (by omega);unfold bits at h;rw[<-h1,<-h2,h]
namespace Tree
variable {α:Type}
theorem getP_leaf (p:List Bool):getP p (.leaf:Tree α)=none:=by cases p<;>rfl
theorem getP_true (p:List Bool) (l:Tree α) (v:Option α) (r:Tree α):getP (true::p) (.node l v r)=getP p l:=rfl
theorem getP_false (p:List Bool) (l:Tree α) (v:Option α) (r:Tree α):getP (false::p) (.node l v r)=getP p r:=rfl
theorem setP_nil (x:Option α) (t:Tree α):setP x [] t=match t with| .leaf=> .node .leaf x .leaf| .node l _ r=> .node l x r:=by cases t<;>rfl
theorem setP_true (x:Option α) (p:List Bool) (t:Tree α):setP x (true::p) t=match t with| .leaf=> .node (setP x p .leaf) none .leaf| .node l v r=> .node (setP x p l) v r:=by cases t<;>rfl
theorem setP_false (x:Option α) (p:List Bool) (t:Tree α):setP x (false::p) t=match t with| .leaf=> .node .leaf none (setP x p .leaf)| .node l v r=> .node l v (setP x p r):=by cases t<;>rfl
theorem getP_setP_same (x:Option α):∀(p:List Bool) (t:Tree α),getP p (setP x p t)=x
 |[],t=>by rw[setP_nil];cases t<;>rfl
 |true::p,t=>by rw[setP_true];cases t<;>exact getP_setP_same x p _
 |false::p,t=>by rw[setP_false];cases t<;>exact getP_setP_same x p _
theorem getP_setP_other (x:Option α):∀(p q:List Bool) (t:Tree α),p≠q->getP q (setP x p t)=getP q t
 |[],[],_,h=>absurd rfl h
 |[],b::q,t,_=>by
  rw[setP_nil];cases t
  ·cases b<;>simp only[getP_true,getP_false,getP_leaf]
  ·cases b<;>rfl
 |b::p,[],t,_=>by
  cases b
  ·rw[setP_false];cases t<;>rfl
  ·rw[setP_true];cases t<;>rfl
 |b::p,c::q,t,h=>by
  by_cases hbc:b=c
  ·subst hbc
   have hpq:p≠q:=λe=>h (by rw[e]);cases b
   ·rw[setP_false]
    cases t
    ·simp only[getP_false,getP_leaf,getP_setP_other x p q _ hpq]
    ·simp only[getP_false,getP_setP_other x p q _ hpq]
   ·rw[setP_true]
    cases t
    ·simp only[getP_true,getP_leaf,getP_setP_other x p q _ hpq]
    ·simp only[getP_true,getP_setP_other x p q _ hpq]
  ·cases b<;>cases c<;>first|exact absurd rfl hbc|skip
   ·rw[setP_false];cases t<;>simp only[getP_true,getP_leaf]
   ·rw[setP_true];cases t<;>simp only[getP_false,getP_leaf]
theorem get_set (t:Tree α) (i j:Nat) (x:Option α):(t.set i x).get j=if i=j then x else t.get j:=by
 unfold get set;split
 ·rename_i h;subst h;exact getP_setP_same ..
 ·rename_i h;exact getP_setP_other _ _ _ _ λe=>h (bits_inj e)
theorem get_leaf (i:Nat):(.leaf:Tree α).get i=none:=getP_leaf _
end Tree
theorem lt16 {n:Nat} (h:n<16):n=0\/n=1\/n=2\/n=3\/n=4\/n=5\/n=6\/n=7\/n=8\/n=9\/n=10\/n=11\/n=12\/n=13\/n=14\/n=15:=by omega
theorem accA_law {a b:Nat} (ha:a<16) (hb:b<16) (v:CV) (t:NA):(accA b).get ((accA a).set v t)=if a=b then v else(accA b).get t:=by
 obtain⟨c0,c1,c2,c3,c4,c5,c6,c7,c8,c9,c10,c11,c12,c13,c14,c15⟩:=t;rcases lt16 ha with rfl|rfl|rfl|rfl|rfl|rfl|rfl|rfl|rfl|rfl|rfl|rfl|rfl|rfl|rfl|rfl<;>rcases lt16 hb with rfl|rfl|rfl|rfl|rfl|rfl|rfl|rfl|rfl|rfl|rfl|rfl|rfl|rfl|rfl|rfl<;>rfl
theorem accB_law {a b:Nat} (ha:a<16) (hb:b<16) (v:NA) (t:Tm):(accB b).get ((accB a).set v t)=if a=b then v else(accB b).get t:=by
 obtain⟨c0,c1,c2,c3,c4,c5,c6,c7,c8,c9,c10,c11,c12,c13,c14,c15,r⟩:=t;rcases lt16 ha with rfl|rfl|rfl|rfl|rfl|rfl|rfl|rfl|rfl|rfl|rfl|rfl|rfl|rfl|rfl|rfl<;>rcases lt16 hb with rfl|rfl|rfl|rfl|rfl|rfl|rfl|rfl|rfl|rfl|rfl|rfl|rfl|rfl|rfl|rfl<;>rfl
theorem accB_rest {a:Nat} (ha:a<16) (v:NA) (t:Tm):((accB a).set v t).rest=t.rest:=by
 obtain⟨c0,c1,c2,c3,c4,c5,c6,c7,c8,c9,c10,c11,c12,c13,c14,c15,r⟩:=t;rcases lt16 ha with rfl|rfl|rfl|rfl|rfl|rfl|rfl|rfl|rfl|rfl|rfl|rfl|rfl|rfl|rfl|rfl<;>rfl
theorem accB_setRest {a:Nat} (ha:a<16) (r:Tree CV) (t:Tm):(accB a).get (Tm.setRest r t)=(accB a).get t:=by
 obtain⟨c0,c1,c2,c3,c4,c5,c6,c7,c8,c9,c10,c11,c12,c13,c14,c15,r0⟩:=t;rcases lt16 ha with rfl|rfl|rfl|rfl|rfl|rfl|rfl|rfl|rfl|rfl|rfl|rfl|rfl|rfl|rfl|rfl<;>rfl
theorem Tm.look_put (t:Tm) (i j:Nat) (v:CV):(t.putv i v).look j=if i=j then v else t.look j:=by
 unfold Tm.look Tm.putv;cases hj:Nat.blt j 256 with
 |true=>
  have hj:j<256:=by simpa[Nat.blt_eq]using hj
  cases hi:Nat.blt i 256 with
  |true=>
   have hi:i<256:=by simpa[Nat.blt_eq]using hi
   simp only;rw[accB_law (by omega) (by omega)];by_cases h:i/16=j/16
   ·rw[if_pos h,accA_law (by omega) (by omega)]
    by_cases h2:i%16=j%16
    ·rw[if_pos h2,if_pos (by omega)]
    ·rw[if_neg h2,if_neg (by intro e;exact h2 (by rw[e])),h]
   ·rw[if_neg h,if_neg (by intro e;exact h (by rw[e]))]
  |false=>
   have hi:¬i<256:=by intro e;rw[show Nat.blt i 256=true by simpa[Nat.blt_eq]using e]at hi;cases hi
   simp only;rw[accB_setRest (by omega),if_neg (by omega)]
 |false=>
  have hj:¬j<256:=by intro e;rw[show Nat.blt j 256=true by simpa[Nat.blt_eq]using e]at hj;cases hj
  cases hi:Nat.blt i 256 with
  |true=>
   have hi:i<256:=by simpa[Nat.blt_eq]using hi
   simp only;rw[accB_rest (by omega),if_neg (by omega)]
  |false=>
   simp only;have:(Tm.setRest (t.rest.set i (some v)) t).rest=t.rest.set i (some v):=by cases t;rfl
   rw[this,Tree.get_set];by_cases h:i=j
   ·rw[if_pos h,if_pos h];rfl
   ·rw[if_neg h,if_neg h]
theorem Tm.get_set (t:Tm) (i j:Nat) (v:CV):(t.set i (some v)).get j=if i=j then some v else t.get j:=by
 show some ((t.putv i v).look j)=_;rw[Tm.look_put];by_cases h:i=j
 ·rw[if_pos h,if_pos h]
 ·rw[if_neg h,if_neg h];rfl
theorem Tm.get_leaf (i:Nat):Tm.leaf.get i=some .undef:=by
 show some (Tm.leaf.look i)=_;unfold Tm.look;cases hi:Nat.blt i 256 with
 |true=>
  have h1:i/16<16:=by have hi:i<256:=(by simpa[Nat.blt_eq]using hi);omega
  have h2:i%16<16:=by omega
  simp only;generalize i/16=a at h1;generalize i%16=b at h2;rcases lt16 h1 with rfl|rfl|rfl|rfl|rfl|rfl|rfl|rfl|rfl|rfl|rfl|rfl|rfl|rfl|rfl|rfl<;>rcases lt16 h2 with rfl|rfl|rfl|rfl|rfl|rfl|rfl|rfl|rfl|rfl|rfl|rfl|rfl|rfl|rfl|rfl<;>rfl
 |false=>
  show some (((.leaf:Tree CV).get i).getD .undef)=_;rw[Tree.get_leaf];rfl
theorem Heap.get_put (h:Heap) (i j:Nat) (b:Blk):(h.put i b).get j=if i=j then some b else h.get j:=Tree.get_set ..
theorem Heap.get_del (h:Heap) (i j:Nat):(h.del i).get j=if i=j then none else h.get j:=Tree.get_set ..
theorem Heap.get_new (h:Heap) (j:Nat) (b:Blk):(h.new b).get j=if h.next=j then some b else h.get j:=Tree.get_set ..
section
variable {α:Type}
theorem nth_eq:∀(l:List α) (n:Nat),nth l n=l[n]?
 |[],_=>rfl
 |_::_,0=>rfl
 |_::l,n+1=>nth_eq l n
theorem takeN_eq:∀(l:List α) (n:Nat),takeN l n=if n<=l.length then some (l.take n)else none
 |[],0=>rfl
 |[],_+1=>rfl
 |_::_,0=>rfl
 |c::l,n+1=>by
  show(takeN l n).map (c:: ·)=_;rw[takeN_eq l n];simp only[List.length_cons,Nat.add_le_add_iff_right,List.take_succ_cons];split<;>rfl
theorem dropN_eq:∀(l:List α) (n:Nat),dropN l n=if n<=l.length then some (l.drop n)else none
 |[],0=>rfl
 |[],_+1=>rfl
 |_::_,0=>rfl
 |c::l,n+1=>by
  show dropN l n=_;rw[dropN_eq l n];simp only[List.length_cons,Nat.add_le_add_iff_right,List.drop_succ_cons]
theorem cut_eq (l:List α) (off n:Nat):cut l off n=if off+n<=l.length then some ((l.drop off).take n)else none:=by
 unfold cut;rw[dropN_eq];by_cases h:off<=l.length
 ·simp only[h,if_true,Option.bind_some,takeN_eq,List.length_drop]
  by_cases h2:off+n<=l.length
  ·rw[if_pos (by omega),if_pos h2]
  ·rw[if_neg (by omega),if_neg h2]
 ·simp only[h,if_false,Option.bind_none]
  rw[if_neg (by omega)]
theorem over_eq:∀(vs l:List α),over vs l=if vs.length<=l.length then some (vs++l.drop vs.length)else none
 |[],l=>by simp[over]
 |v::vs,[]=>by simp[over]
 |v::vs,c::l=>by
  show(over vs l).map (v:: ·)=_;rw[over_eq vs l];simp only[List.length_cons,Nat.add_le_add_iff_right,List.drop_succ_cons,List.cons_append];split<;>rfl
theorem setAt_eq:∀(l vs:List α) (n:Nat),setAt l vs n=if n+vs.length<=l.length then some (l.take n++vs++l.drop (n+vs.length))else none
 |[],vs,0=>by show over vs []=_;rw[over_eq];simp
 |[],vs,n+1=>by simp[setAt]
 |c::l,vs,0=>by show over vs (c::l)=_;rw[over_eq];simp
 |c::l,vs,n+1=>by
  show(setAt l vs n).map (c:: ·)=_;rw[setAt_eq l vs n];have e:n+1+vs.length=(n+vs.length)+1:=by omega
  simp only[List.length_cons,e,Nat.add_le_add_iff_right,List.take_succ_cons,List.drop_succ_cons,List.cons_append];split<;>rfl
theorem len_eq:∀(l:List α),len l=l.length
 |[]=>rfl
 |_::l=>congrArg (· +1) (len_eq l)
end
theorem bytesEq_eq:∀(a b:List UInt8),bytesEq a b=decide (a=b)
 |[],[]=>by simp[bytesEq]
 |[],_::_=>by simp[bytesEq]
 |_::_,[]=>by simp[bytesEq]
 |a::x,b::y=>by
  have ih:=bytesEq_eq x y;unfold bytesEq;by_cases h:a=b
  ·subst h
   have:Nat.beq a.toNat a.toNat=true:=Nat.beq_refl _;simp[this,ih]
  ·have:Nat.beq a.toNat b.toNat=false:=by
     rw[<-Bool.not_eq_true];intro e;exact h (UInt8.toNat_inj.1 (Nat.eq_of_beq_eq_true e))
   simp[this,h]
theorem intEq_eq (a b:Int):intEq a b=(a==b):=by
 cases a<;>cases b<;>simp only[intEq]
 ·rw[Bool.eq_iff_iff,Nat.beq_eq];simp only[beq_iff_eq,Int.ofNat.injEq]
 ·rw[eq_comm,beq_eq_false_iff_ne];exact λh=>by cases h
 ·rw[eq_comm,beq_eq_false_iff_ne];exact λh=>by cases h
 ·rw[Bool.eq_iff_iff,Nat.beq_eq];simp only[beq_iff_eq,Int.negSucc.injEq]
theorem intLe_eq (a b:Int):intLe a b=decide (a<=b):=by
 cases a<;>cases b<;>simp only[intLe]
 ·rw[Bool.eq_iff_iff,Nat.ble_eq];simp
 ·rename_i m n
  rw[eq_comm,decide_eq_false_iff_not];have:(Int.ofNat m)=(m:Int):=rfl;omega
 ·rename_i m n
  rw[eq_comm,decide_eq_true_iff];have:(Int.ofNat n)=(n:Int):=rfl;omega
 ·rw[Bool.eq_iff_iff,Nat.ble_eq,decide_eq_true_iff];omega
theorem kindEq_iff {a b:IntKind}:kindEq a b=true↔a=b:=by
 cases a<;>cases b<;>decide
theorem place_eq {n:Int} {l i:Nat} (h:place n l=some i):n=i/\i<l:=by
 unfold place at h;split at h
 ·split at h
  ·rename_i hb
   cases h;exact⟨rfl,by simpa[Nat.blt_eq]using hb⟩
  ·cases h
 ·cases h
theorem upto_eq {n:Int} {l i:Nat} (h:upto n l=some i):n=i/\i<=l:=by
 unfold upto at h;split at h
 ·split at h
  ·rename_i hb
   cases h;exact⟨rfl,Nat.le_of_ble_eq_true hb⟩
  ·cases h
 ·cases h
mutual
theorem cvEq_sound:∀(a b:CV),cvEq a b=true->a=b
 | .undef,b,e=>by cases b<;>first|rfl|(simp[cvEq]at e)
 | .empty,b,e=>by cases b<;>first|rfl|(simp[cvEq]at e)
 | .bool x,b,e=>by cases b<;>simp[cvEq]at e;rw[e]
 | .int k x,b,e=>by
   cases b<;>simp[cvEq]at e;obtain⟨e1,e2⟩:=e;rw[kindEq_iff.1 e1];rw[intEq_eq,beq_iff_eq]at e2;rw[e2]
 | .str x,b,e=>by
   cases b<;>simp[cvEq]at e;rw[bytesEq_eq,decide_eq_true_iff]at e;rw[e]
 | .ptr none,b,e=>by
   cases b with
   |ptr q=>cases q<;>first|rfl|(simp[cvEq]at e)
   |_=>simp[cvEq]at e
 | .ptr (some p),b,e=>by
   cases b with
   |ptr q=>
    cases q with
    |none=>simp[cvEq]at e
    |some q=>
     simp only[cvEq,Bool.and_eq_true]at e;obtain⟨p1,p2⟩:=p;obtain⟨q1,q2⟩:=q;have e1:p1=q1:=Nat.eq_of_beq_eq_true e.1;have e2:p2=q2:=Nat.eq_of_beq_eq_true e.2;rw[e1,e2]
   |_=>simp[cvEq]at e
 | .slice none n c x,b,e=>by
   cases b with
   |slice q n' c' x'=>
    cases q with
    |none=>
     simp only[cvEq,Bool.and_eq_true]at e;rw[Nat.eq_of_beq_eq_true e.1.1,Nat.eq_of_beq_eq_true e.1.2,Nat.eq_of_beq_eq_true e.2]
    |some q=>simp[cvEq]at e
   |_=>simp[cvEq]at e
 | .slice (some p) n c x,b,e=>by
   cases b with
   |slice q n' c' x'=>
    cases q with
    |none=>simp[cvEq]at e
    |some q=>
     simp only[cvEq,Bool.and_eq_true]at e;obtain⟨p1,p2⟩:=p;obtain⟨q1,q2⟩:=q;obtain⟨⟨⟨⟨e1,e2⟩,e3⟩,e4⟩,e5⟩:=e;have e1:p1=q1:=Nat.eq_of_beq_eq_true e1;have e2:p2=q2:=Nat.eq_of_beq_eq_true e2;rw[e1,e2,Nat.eq_of_beq_eq_true e3,Nat.eq_of_beq_eq_true e4,Nat.eq_of_beq_eq_true e5]
   |_=>simp[cvEq]at e
 | .map none,b,e=>by
   cases b with
   |map q=>cases q<;>first|rfl|(simp[cvEq]at e)
   |_=>simp[cvEq]at e
 | .map (some p),b,e=>by
   cases b with
   |map q=>
    cases q with
    |none=>simp[cvEq]at e
    |some q=>simp only[cvEq]at e;rw[Nat.eq_of_beq_eq_true e]
   |_=>simp[cvEq]at e
 | .fn g x y,b,e=>by
   cases b<;>simp[cvEq]at e;rw[e.1.1,cvsEq_sound _ _ e.1.2,cvsEq_sound _ _ e.2]
 | .yield l,b,e=>by cases b<;>simp[cvEq]at e;rw[e]
 | .nilFunc,b,e=>by cases b<;>first|rfl|(simp[cvEq]at e)
 | .iface t x,b,e=>by
   cases b<;>simp[cvEq]at e;rw[e.1,cvEq_sound _ _ e.2]
 | .nilIface,b,e=>by cases b<;>first|rfl|(simp[cvEq]at e)
 | .agg x,b,e=>by
   cases b<;>simp[cvEq]at e;rw[cvsEq_sound _ _ e]
 | .tup x,b,e=>by
   cases b<;>simp[cvEq]at e;rw[cvsEq_sound _ _ e]
theorem cvsEq_sound:∀(a b:List CV),cvsEq a b=true->a=b
 |[],b,e=>by cases b<;>first|rfl|(simp[cvsEq]at e)
 |x::a,b,e=>by
  cases b with
  |nil=>simp[cvsEq]at e
  |cons y b=>
   simp only[cvsEq,Bool.and_eq_true]at e;rw[cvEq_sound _ _ e.1,cvsEq_sound _ _ e.2]
end
theorem mesEq_sound:∀(a b:List ME),mesEq a b=true->a=b
 |[],b,e=>by cases b<;>first|rfl|(simp[mesEq]at e)
 |x::a,b,e=>by
  cases b with
  |nil=>simp[mesEq]at e
  |cons y b=>
   simp only[mesEq,Bool.and_eq_true]at e;obtain⟨⟨⟨e1,e2⟩,e3⟩,e4⟩:=e;obtain⟨k,v,n⟩:=x;obtain⟨k',v',n'⟩:=y;simp only at e1 e2 e3;rw[cvEq_sound _ _ e1,cvEq_sound _ _ e2,Nat.eq_of_beq_eq_true e3,mesEq_sound _ _ e4]
theorem blkEq_sound {a b:Option Blk} (e:blkEq a b=true):a=b:=by
 unfold blkEq at e;split at e
 ·rfl
 ·simp only[Bool.and_eq_true,beq_iff_eq]at e
  rw[cvsEq_sound _ _ e.1,e.2]
 ·simp only[Bool.and_eq_true]at e
  rw[mesEq_sound _ _ e.1,Nat.eq_of_beq_eq_true e.2]
 ·simp only[Bool.and_eq_true]at e
  obtain⟨e1,e2⟩:=e;rw[bytesEq_eq,decide_eq_true_iff]at e1;rw[e1,Nat.eq_of_beq_eq_true e2]
 ·cases e
end Go.CM

noncomputable section
namespace Go.CM
structure Rho where
 loc:Nat->Option (Nat×Nat)
 room:Nat->Nat
instance:CoeFun Rho (λ_=>Nat->Option (Nat×Nat)):=⟨Rho.loc⟩
def mk (b o:Nat):Addr:=⟨b,o,none⟩
theorem mk_add (b o j:Nat):(mk b o).add j=mk b (o+j):=by
 unfold Addr.add mk;split<;>simp_all
inductive VR (ρ:Rho):CV->Value->Prop where
 |undef (x:Value):VR ρ .undef x
 |bool (b:Bool):VR ρ (.bool b) (.bool b)
 |int (k:IntKind) (n:Int):VR ρ (.int k n) (.int k n)
 |str (s:ByteArray):VR ρ (.str s.data.toList) (.string s)
 |nilptr:VR ρ (.ptr none) (.pointer none)
 |ptr (i o k d:Nat) (h:ρ i=some (k,d)):VR ρ (.ptr (some (i,o))) (.pointer (some (mk k (d+o))))
 |nilslice (n c x c':Nat) (h:c<=c') (hx:x=0->c'=c) (hn:n<=c) (hm:c'<=9223372036854775807):VR ρ (.slice none n c x) (.slice none n c')
 |slice (i o n c x k d c':Nat) (hi:ρ i=some (k,d)) (h:c<=c') (hx:x=0->c'=c) (hr:x≠0->c'*x+o<=ρ.room i) (hn:n<=c) (hm:c'<=9223372036854775807):VR ρ (.slice (some (i,o)) n c x) (.slice (some (mk k (d+o))) n c')
 |empty (p:Addr) (c':Nat) (hm:c'<=9223372036854775807):VR ρ .empty (.slice (some p) 0 c')
 |nilmap:VR ρ (.map none) (.map none)
 |map (i k:Nat) (h:ρ i=some (k,0)):VR ρ (.map (some i)) (.map (some k))
 |fn (f:FuncId) (first caps:List CV) (a1 a2:Array Value) (hl1:a1.size=first.length) (hl2:a2.size=caps.length)
  (hr1:∀i,i<first.length->VR ρ (first.getD i .undef) (a1.getD i Go.undef)) (hr2:∀i,i<caps.length->VR ρ (caps.getD i .undef) (a2.getD i Go.undef)):VR ρ (.fn f first caps) (.func (.func f) a1 a2)
 |yield (i l:Nat) (h:ρ i=some (l,0)):VR ρ (.yield i) (.func (.yield l) #[] #[])
 |nilFunc:VR ρ .nilFunc .nilFunc
 |iface (t:TypeId) (v:CV) (x:Value) (h:VR ρ v x):VR ρ (.iface t v) (.iface t x)
 |nilIface:VR ρ .nilIface .nilIface
 |agg (cs:List CV) (arr:Array Value) (hl:arr.size=cs.length) (hr:∀i,i<cs.length->VR ρ (cs.getD i .undef) (arr.getD i Go.undef)) (h1:∀i,i<cs.length->(cs.getD i .undef).one=true):VR ρ (.agg cs) (.agg arr)
 |tup (cs:List CV) (arr:Array Value) (hl:arr.size=cs.length) (hr:∀i,i<cs.length->VR ρ (cs.getD i .undef) (arr.getD i Go.undef)):VR ρ (.tup cs) (.tuple arr)
def Sub (ρ ρ':Rho):Prop:=∀i p,ρ i=some p->ρ' i=some p/\ρ'.room i=ρ.room i
theorem Sub.refl (ρ:Rho):Sub ρ ρ:=λ_ _ h=>⟨h,rfl⟩
theorem Sub.trans {a b c:Rho} (h:Sub a b) (k:Sub b c):Sub a c:=λi p x=>⟨(k i p (h i p x).1).1,(k i p (h i p x).1).2.trans (h i p x).2⟩
theorem VR.mono {ρ ρ':Rho} (s:Sub ρ ρ') {v:CV} {x:Value} (h:VR ρ v x):VR ρ' v x:=by
 induction h with
 |undef x=>exact .undef x
 |bool b=>exact .bool b
 |int k n=>exact .int k n
 |str x=>exact .str x
 |nilptr=>exact .nilptr
 |ptr i o k d h=>exact .ptr i o k d (s _ _ h).1
 |nilslice n c x c' h hx hn hm=>exact .nilslice n c x c' h hx hn hm
 |slice i o n c x k d c' hi h hx hr hn hm=>exact .slice i o n c x k d c' (s _ _ hi).1 h hx (λe=>by rw[(s _ _ hi).2];exact hr e) hn hm
 |empty p c' hm=>exact .empty p c' hm
 |nilmap=>exact .nilmap
 |map i k h=>exact .map i k (s _ _ h).1
 |fn f first caps a1 a2 hl1 hl2 hr1 hr2 ih1 ih2=>exact .fn f first caps a1 a2 hl1 hl2 ih1 ih2
 |yield i l h=>exact .yield i l (s _ _ h).1
 |nilFunc=>exact .nilFunc
 |iface t v x h ih=>exact .iface t v x ih
 |nilIface=>exact .nilIface
 |agg cs arr hl hr h1 ih=>exact .agg cs arr hl ih h1
 |tup cs arr hl hr ih=>exact .tup cs arr hl ih
theorem VR.oneCell {ρ:Rho} {v:CV} {x:Value} (h:VR ρ v x) (h1:v.one=true):x.oneCell'=true:=by
 cases h<;>first|rfl|cases h1
def VRs (ρ:Rho) (vs:List CV) (xs:List Value):Prop:=xs.length=vs.length/\∀i,i<vs.length->VR ρ (vs.getD i .undef) (xs.getD i undef)
theorem VRs.nil (ρ:Rho):VRs ρ [] []:=⟨rfl,λi hi=>absurd hi (by simp)⟩
theorem VRs.cons {ρ:Rho} {v:CV} {x:Value} {vs:List CV} {xs:List Value} (h:VR ρ v x) (t:VRs ρ vs xs):VRs ρ (v::vs) (x::xs):=by
 refine⟨by simp[t.1],λi hi=> ?_⟩;cases i with
 |zero=>simpa using h
 |succ i=>simpa using t.2 i (by simpa using hi)
theorem VRs.head {ρ:Rho} {v:CV} {vs:List CV} {xs:List Value} (h:VRs ρ (v::vs) xs):∃x r,xs=x::r/\VR ρ v x/\VRs ρ vs r:=by
 cases xs with
 |nil=>have:=h.1;simp at this
 |cons x r=>
  refine⟨x,r,rfl,by simpa using h.2 0 (by simp),by simpa using h.1,λi hi=> ?_⟩;simpa using h.2 (i+1) (by simpa using hi)
theorem VRs.of_nil {ρ:Rho} {xs:List Value} (h:VRs ρ [] xs):xs=[]:=List.eq_nil_of_length_eq_zero (by simpa using h.1)
theorem VRs.append {ρ:Rho} {a b:List CV} {x y:List Value} (h:VRs ρ a x) (k:VRs ρ b y):VRs ρ (a++b) (x++y):=by
 induction a generalizing x with
 |nil=>rw[h.of_nil];simpa using k
 |cons v a ih=>
  obtain⟨x0,r,rfl,h1,h2⟩:=h.head;exact VRs.cons h1 (ih h2)
theorem VRs.mono {ρ ρ':Rho} (s:Sub ρ ρ') {vs:List CV} {xs:List Value} (h:VRs ρ vs xs):VRs ρ' vs xs:=⟨h.1,λi hi=>(h.2 i hi).mono s⟩
theorem VRs.drop {ρ:Rho}:∀(n:Nat) {a:List CV} {x:List Value},VRs ρ a x->VRs ρ (a.drop n) (x.drop n)
 |0,_,_,h=>h
 |n+1,[],x,h=>by rw[h.of_nil];simpa using VRs.nil ρ
 |n+1,v::a,x,h=>by
  obtain⟨x0,r,rfl,h1,h2⟩:=h.head;exact VRs.drop n h2
theorem VRs.take {ρ:Rho}:∀(n:Nat) {a:List CV} {x:List Value},VRs ρ a x->VRs ρ (a.take n) (x.take n)
 |0,_,_,_=>by simpa using VRs.nil ρ
 |n+1,[],x,h=>by rw[h.of_nil];simpa using VRs.nil ρ
 |n+1,v::a,x,h=>by
  obtain⟨x0,r,rfl,h1,h2⟩:=h.head;exact VRs.cons h1 (VRs.take n h2)
theorem VRs.get {ρ:Rho} {a:List CV} {x:List Value} (h:VRs ρ a x) {i:Nat} {v:CV} (hv:a[i]? =some v):∃y,x[i]? =some y/\VR ρ v y:=by
 obtain⟨hi,rfl⟩:=List.getElem?_eq_some_iff.1 hv;have h2:=h.2 i hi;have hx:i<x.length:=by rw[h.1];exact hi
 refine⟨x[i],List.getElem?_eq_getElem hx,?_⟩;simpa[List.getD_eq_getElem?_getD,hi,hx]using h2
def stOf:Nat->LoopState
 |0=> .ready
 |1=> .busy
 |2=> .done
 |_=> .exhausted
structure LoopR (ρ:Rho) (tm:Tm) (ps:List Nat) (asg body:Code) (st:Nat) (pend:Option Code) (r:Loop):Prop where
 estate:r.state=stOf st
 epend:r.pending=pend
 eps:r.params.toList=ps
 easg:r.assign=asg
 ebody:r.body=body
 tmp:∀t,VR ρ ((tm.get t).getD .undef) (r.tmps.getD t undef)
 ok:(∀p∈ps,p<r.tmps.size)/\dstsOk r.tmps.size asg=true/\dstsOk r.tmps.size body=true/\noRange asg=true/\noRange body=true
def BlkRel (ρ:Rho) (w:World) (k d r:Nat):Blk->Prop
 | .cells cs ro=>∃arr ty fz,w.heap[k]? =some (.cells arr ty fz)/\(d+cs.length<=arr.size/\d+r<=arr.size)/\VRs ρ cs ((arr.toList.drop d).take cs.length)/\(∀c∈cs,c.one=true)/\(ro=false->fz=(0,0))
 | .map es clock=>d=0/\∃ms,w.heap[k]? =some (.map ms clock)/\VRs ρ (es.map (·.key)) (ms.toList.map (·.key))/\VRs ρ (es.map (·.val)) (ms.toList.map (·.val))/\es.map (·.born)=ms.toList.map (·.born)
 | .strIter s pos=>d=0/\∃b,w.heap[k]? =some (.stringIter b pos)/\b.data.toList=s
 | .loop tm ps asg body st pend=>d=0/\∃r,w.heap[k]? =some (.loop r)/\LoopR ρ tm ps asg body st pend r
theorem BlkRel.later {ρ ρ':Rho} {w w':World} {k d n:Nat} {b:Blk} (s:Sub ρ ρ') (h:w'.heap[k]? =w.heap[k]?) (r:BlkRel ρ w k d n b):BlkRel ρ' w' k d n b:=by
 cases b with
 |cells cs ro=>
  obtain⟨arr,ty,fz,h1,h2,h3,h4,h5⟩:=r;exact⟨arr,ty,fz,h.trans h1,h2,h3.mono s,h4,h5⟩
 |map es c=>
  obtain⟨h0,ms,h1,h2,h3,h4⟩:=r;exact⟨h0,ms,h.trans h1,h2.mono s,h3.mono s,h4⟩
 |strIter x p=>
  obtain⟨h0,b,h1,h2⟩:=r;exact⟨h0,b,h.trans h1,h2⟩
 |loop tm ps asg body st pend=>
  obtain⟨h0,r,h1,h2⟩:=r;exact⟨h0,r,h.trans h1,⟨h2.estate,h2.epend,h2.eps,h2.easg,h2.ebody,λt=>(h2.tmp t).mono s,h2.ok⟩⟩
def Blk.ro:Blk->Bool
 | .cells _ r=>r
 |_=>false
structure HR (ρ:Rho) (h:Heap) (w:World):Prop where
 blk:∀i b,h.get i=some b->∃k d,ρ i=some (k,d)/\BlkRel ρ w k d (ρ.room i) b
 inj:∀i j k d e b c,h.get i=some b->h.get j=some c->(b.ro=false\/c.ro=false)->ρ i=some (k,d)->ρ j=some (k,e)->i=j
 fresh:∀i,h.next<=i->ρ i=none
 lt:∀i k d,ρ i=some (k,d)->k<w.heap.size
def LiveW (ρ:Rho) (h:Heap) (b:Nat):Prop:=∃j d c,h.get j=some c/\c.ro=false/\ρ j=some (b,d)
def Live (ρ:Rho) (h:Heap) (b:Nat):Prop:=∃j d,h.get j≠none/\ρ j=some (b,d)
structure Keep (L:Nat->Prop) (w w':World):Prop where
 os:w'.os=w.os
 out:w'.output=w.output
 size:w.heap.size<=w'.heap.size
 same:∀b,b<w.heap.size->¬L b->w'.heap[b]? =w.heap[b]?
theorem Keep.refl (L:Nat->Prop) (w:World):Keep L w w:=⟨rfl,rfl,Nat.le_refl _,λ_ _ _=>rfl⟩
structure J (ρ:Rho) (h:Heap) (w:World) (ρ':Rho) (h':Heap) (w':World):Prop where
 ext:∀i,i<h.next->ρ' i=ρ i/\ρ'.room i=ρ.room i
 next:h.next<=h'.next
 hr:HR ρ' h' w'
 keep:Keep (LiveW ρ h) w w'
 own:∀b,Live ρ' h' b->w.heap.size<=b\/Live ρ h b
 ownW:∀b,LiveW ρ' h' b->w.heap.size<=b\/LiveW ρ h b
theorem J.refl {ρ:Rho} {h:Heap} {w:World} (hr:HR ρ h w):J ρ h w ρ h w:=⟨λ_ _=>⟨rfl,rfl⟩,Nat.le_refl _,hr,Keep.refl _ _,λ_ h=> .inr h,λ_ h=> .inr h⟩
theorem J.sub {ρ ρ':Rho} {h h':Heap} {w w':World} (hr:HR ρ h w) (j:J ρ h w ρ' h' w'):Sub ρ ρ':=by
 intro i p hp;rcases Nat.lt_or_ge i h.next with hi|hi
 ·rw[(j.ext i hi).1];exact⟨hp,(j.ext i hi).2⟩
 ·rw[hr.fresh i hi]at hp;cases hp
theorem J.trans {ρ ρ1 ρ2:Rho} {h h1 h2:Heap} {w w1 w2:World} (a:J ρ h w ρ1 h1 w1) (b:J ρ1 h1 w1 ρ2 h2 w2):J ρ h w ρ2 h2 w2:=by
 refine⟨λi hi=>⟨(b.ext i (Nat.lt_of_lt_of_le hi a.next)).1.trans (a.ext i hi).1,(b.ext i (Nat.lt_of_lt_of_le hi a.next)).2.trans (a.ext i hi).2⟩,Nat.le_trans a.next b.next,b.hr,⟨b.keep.os.trans a.keep.os,b.keep.out.trans a.keep.out,Nat.le_trans a.keep.size b.keep.size,λk hk hl=> ?_⟩,λk hk=> ?_,λk hk=> ?_⟩
 ·rw[b.keep.same k (Nat.lt_of_lt_of_le hk a.keep.size) ?_,a.keep.same k hk hl]
  intro hl1;rcases a.ownW k hl1 with h|h
  ·omega
  ·exact hl h
 ·rcases b.own k hk with h|h
  ·exact .inl (Nat.le_trans a.keep.size h)
  ·exact a.own k h
 ·rcases b.ownW k hk with h|h
  ·exact .inl (Nat.le_trans a.keep.size h)
  ·exact a.ownW k h
theorem HR.of_heap {ρ:Rho} {h:Heap} {w w':World} (hr:HR ρ h w) (e:w'.heap=w.heap):HR ρ h w':=
 ⟨λi b hb=>let ⟨k,d,h1,h2⟩:=hr.blk i b hb;⟨k,d,h1,h2.later (Sub.refl _) (by rw[e])⟩,hr.inj,hr.fresh,λi k d hk=>by rw[e];exact hr.lt i k d hk⟩
def upd (ρ:Rho) (n:Nat) (p:Nat×Nat) (r:Nat):Rho:=⟨λi=>if i=n then some p else ρ i,λi=>if i=n then r else ρ.room i⟩
theorem upd_same (ρ:Rho) (n:Nat) (p:Nat×Nat) (r:Nat):upd ρ n p r n=some p:=by simp[upd]
theorem upd_other (ρ:Rho) (n:Nat) (p:Nat×Nat) (r:Nat) {i:Nat} (h:i≠n):upd ρ n p r i=ρ i:=by simp[upd,h]
theorem upd_room (ρ:Rho) (n:Nat) (p:Nat×Nat) (r:Nat):(upd ρ n p r).room n=r:=by simp[upd]
theorem upd_room' (ρ:Rho) (n:Nat) (p:Nat×Nat) (r:Nat) {i:Nat} (h:i≠n):(upd ρ n p r).room i=ρ.room i:=by simp[upd,h]
theorem HR.sub {ρ:Rho} {h:Heap} {w:World} (hr:HR ρ h w) (p:Nat×Nat) (r:Nat):Sub ρ (upd ρ h.next p r):=by
 intro i q hq
 have hi:i≠h.next:=by
  intro e;subst e;rw[hr.fresh _ (Nat.le_refl _)]at hq;cases hq
 rw[upd_other _ _ _ _ hi,upd_room' _ _ _ _ hi];exact⟨hq,rfl⟩
theorem J.put {ρ:Rho} {h:Heap} {w w':World} (hr:HR ρ h w) {i k d:Nat} {b b':Blk} (hb:h.get i=some b) (hro:b.ro=false) (hi:ρ i=some (k,d))
  (hos:w'.os=w.os) (hout:w'.output=w.output) (hsz:w'.heap.size=w.heap.size) (hother:∀x,x≠k->w'.heap[x]? =w.heap[x]?) (hnew:BlkRel ρ w' k d (ρ.room i) b'):J ρ h w ρ (h.put i b') w':=by
 have live:∀j,(h.put i b').get j≠none->h.get j≠none:=by
  intro j hj;rw[Heap.get_put]at hj;by_cases e:i=j
  ·subst e;rw[hb];simp
  ·rwa[if_neg e]at hj
 have livb:∀j c,(h.put i b').get j=some c->∃c0,h.get j=some c0/\(c.ro=false->c0.ro=false):=by
  intro j c hj;rw[Heap.get_put]at hj;by_cases e:i=j
  ·subst e;exact⟨b,hb,λ_=>hro⟩
  ·rw[if_neg e]at hj;exact⟨c,hj,λh=>h⟩
 refine⟨λ_ _=>⟨rfl,rfl⟩,Nat.le_refl _,⟨λj c hj=> ?_,λx y k d e bx cy hx hy hn=>by
  obtain⟨b0,g0,r0⟩:=livb x bx hx;obtain⟨c0,g1,r1⟩:=livb y cy hy;exact hr.inj x y k d e b0 c0 g0 g1 (hn.imp r0 r1),hr.fresh,λx y z hx=>by rw[hsz];exact hr.lt x y z hx⟩,⟨hos,hout,by omega,λx hx hl=> ?_⟩,λx hx=> ?_,λx hx=> ?_⟩
 ·rw[Heap.get_put]at hj
  by_cases e:i=j
  ·subst e
   rw[if_pos rfl]at hj;cases hj;exact⟨k,d,hi,hnew⟩
  ·rw[if_neg e]at hj
   obtain⟨k2,d2,h1,h2⟩:=hr.blk j c hj;refine⟨k2,d2,h1,h2.later (Sub.refl _) (hother k2 ?_)⟩;intro hk;subst hk;exact e (hr.inj i j k2 d d2 b c hb hj (.inl hro) hi h1)
 ·exact hother x λe=>hl ⟨i,d,b,hb,hro,by rw[e];exact hi⟩
 ·obtain⟨j,e,h1,h2⟩:=hx
  exact .inr ⟨j,e,live j h1,h2⟩
 ·obtain⟨j,e,c,h1,h2,h3⟩:=hx
  rw[Heap.get_put]at h1;by_cases e0:i=j
  ·subst e0
   exact .inr ⟨i,e,b,hb,hro,h3⟩
  ·rw[if_neg e0]at h1
   exact .inr ⟨j,e,c,h1,h2,h3⟩
theorem J.new {ρ:Rho} {h:Heap} {w w':World} (hr:HR ρ h w) {b:Blk} (r:Nat)
  (hos:w'.os=w.os) (hout:w'.output=w.output) (hsz:w.heap.size<w'.heap.size) (hother:∀x,x<w.heap.size->w'.heap[x]? =w.heap[x]?) (hnew:BlkRel (upd ρ h.next (w.heap.size,0) r) w' w.heap.size 0 r b):
  J ρ h w (upd ρ h.next (w.heap.size,0) r) (h.new b) w':=by
 have hs:=hr.sub (w.heap.size,0) r;have old:∀{j k d},upd ρ h.next (w.heap.size,0) r j=some (k,d)->j≠h.next->ρ j=some (k,d):=λhj e=>by rwa[upd_other _ _ _ _ e]at hj
 refine⟨λi hi=>⟨upd_other _ _ _ _ (by omega),upd_room' _ _ _ _ (by omega)⟩,Nat.le_succ _,⟨λj c hj=> ?_,λx y k d e bx cy hx hy hn h1 h2=> ?_,λi hi=> ?_,λx y z hx=> ?_⟩,⟨hos,hout,by omega,λx hx _=>hother x hx⟩,λx hx=> ?_,λx hx=> ?_⟩
 ·rw[Heap.get_new]at hj
  by_cases e:h.next=j
  ·subst e
   rw[if_pos rfl]at hj;cases hj;exact⟨_,_,upd_same _ _ _ _,by rw[upd_room];exact hnew⟩
  ·rw[if_neg e]at hj
   obtain⟨k2,d2,h1,h2⟩:=hr.blk j c hj;refine⟨k2,d2,(hs _ _ h1).1,?_⟩;rw[(hs _ _ h1).2];exact h2.later hs (hother k2 (hr.lt _ _ _ h1))
 ·rw[Heap.get_new]at hx hy
  by_cases ex:h.next=x<;>by_cases ey:h.next=y
  ·rw[<-ex,<-ey]
  ·subst ex
   rw[upd_same]at h1;have:=hr.lt _ _ _ (old h2 (Ne.symm ey));cases h1;omega
  ·subst ey
   rw[upd_same]at h2;have:=hr.lt _ _ _ (old h1 (Ne.symm ex));cases h2;omega
  ·rw[if_neg ex]at hx
   rw[if_neg ey]at hy;exact hr.inj x y k d e bx cy hx hy hn (old h1 (Ne.symm ex)) (old h2 (Ne.symm ey))
 ·have hi:h.next+1<=i:=hi
  rw[upd_other _ _ _ _ (by omega)];exact hr.fresh i (by omega)
 ·by_cases e:x=h.next
  ·subst e
   rw[upd_same]at hx;cases hx;exact hsz
  ·have:=hr.lt _ _ _ (old hx e)
   omega
 ·obtain⟨j,e,h1,h2⟩:=hx
  by_cases ej:j=h.next
  ·subst ej
   rw[upd_same]at h2;cases h2;exact .inl (Nat.le_refl _)
  ·rw[Heap.get_new,if_neg (Ne.symm ej)]at h1
   exact .inr ⟨j,e,h1,old h2 ej⟩
 ·obtain⟨j,e,c,h1,h0,h2⟩:=hx
  by_cases ej:j=h.next
  ·subst ej
   rw[upd_same]at h2;cases h2;exact .inl (Nat.le_refl _)
  ·rw[Heap.get_new,if_neg (Ne.symm ej)]at h1
   exact .inr ⟨j,e,c,h1,h0,old h2 ej⟩
theorem J.move {ρ:Rho} {h:Heap} {w w':World} (hr:HR ρ h w) {i k d d':Nat} {b b':Blk} (r:Nat) (hb:h.get i=some b) (hro:b.ro=false) (hi:ρ i=some (k,d))
  (hos:w'.os=w.os) (hout:w'.output=w.output) (hsz:w'.heap.size=w.heap.size) (hother:∀x,x≠k->w'.heap[x]? =w.heap[x]?) (hnew:BlkRel (upd ρ h.next (k,d') r) w' k d' r b'):
  J ρ h w (upd ρ h.next (k,d') r) ((h.del i).new b') w':=by
 have hs:=hr.sub (k,d') r;have hin:i≠h.next:=by intro e;subst e;rw[hr.fresh _ (Nat.le_refl _)]at hi;cases hi
 have old:∀{j x y},upd ρ h.next (k,d') r j=some (x,y)->j≠h.next->ρ j=some (x,y):=λhj e=>by rwa[upd_other _ _ _ _ e]at hj
 have get:∀j,((h.del i).new b').get j=if h.next=j then some b' else if i=j then none else h.get j:=by
  intro j;rw[Heap.get_new];show(if h.next=j then some b' else(h.del i).get j)=_
  rw[Heap.get_del]
 refine⟨λj hj=>⟨upd_other _ _ _ _ (by omega),upd_room' _ _ _ _ (by omega)⟩,Nat.le_succ _,⟨λj c hj=> ?_,λx y k2 d2 e bx cy hx hy hn h1 h2=> ?_,λj hj=> ?_,λx y z hx=> ?_⟩,⟨hos,hout,by omega,λx hx hl=> ?_⟩,λx hx=> ?_,λx hx=> ?_⟩
 ·rw[get]at hj
  by_cases e:h.next=j
  ·subst e
   rw[if_pos rfl]at hj;cases hj;exact⟨_,_,upd_same _ _ _ _,by rw[upd_room];exact hnew⟩
  ·rw[if_neg e]at hj
   by_cases e2:i=j
   ·rw[if_pos e2]at hj;cases hj
   ·rw[if_neg e2]at hj
    obtain⟨k2,d2,h1,h2⟩:=hr.blk j c hj;refine⟨k2,d2,(hs _ _ h1).1,?_⟩;rw[(hs _ _ h1).2];refine h2.later hs (hother k2 ?_);intro hk;subst hk;exact e2 (hr.inj i j k2 d d2 b c hb hj (.inl hro) hi h1)
 ·rw[get]at hx hy
  have key:∀z e bz,z≠h.next->i≠z->h.get z=some bz->ρ z=some (k,e)->False:=λz e bz _ hz hg hz2=>hz (hr.inj i z k d e b bz hb hg (.inl hro) hi hz2);by_cases ex:h.next=x<;>by_cases ey:h.next=y
  ·rw[<-ex,<-ey]
  ·subst ex
   rw[upd_same]at h1;cases h1;rw[if_neg ey]at hy;by_cases e2:i=y
   ·rw[if_pos e2]at hy;cases hy
   ·rw[if_neg e2]at hy
    exact(key y e cy (Ne.symm ey) e2 hy (old h2 (Ne.symm ey))).elim
  ·subst ey
   rw[upd_same]at h2;cases h2;rw[if_neg ex]at hx;by_cases e2:i=x
   ·rw[if_pos e2]at hx;cases hx
   ·rw[if_neg e2]at hx
    exact(key x d2 bx (Ne.symm ex) e2 hx (old h1 (Ne.symm ex))).elim
  ·rw[if_neg ex]at hx
   rw[if_neg ey]at hy;by_cases e2:i=x
   ·rw[if_pos e2]at hx;cases hx
   ·by_cases e3:i=y
    ·rw[if_pos e3]at hy;cases hy
    ·rw[if_neg e2]at hx
     rw[if_neg e3]at hy;exact hr.inj x y k2 d2 e bx cy hx hy hn (old h1 (Ne.symm ex)) (old h2 (Ne.symm ey))
 ·have hj:h.next+1<=j:=hj
  rw[upd_other _ _ _ _ (by omega)];exact hr.fresh j (by omega)
 ·by_cases e:x=h.next
  ·subst e
   rw[upd_same]at hx;cases hx;have:=hr.lt _ _ _ hi;omega
  ·have:=hr.lt _ _ _ (old hx e)
   omega
 ·exact hother x λe=>hl ⟨i,d,b,hb,hro,by rw[e];exact hi⟩
 ·obtain⟨j,e,h1,h2⟩:=hx
  by_cases ej:j=h.next
  ·subst ej
   rw[upd_same]at h2;cases h2;exact .inr ⟨i,d,by rw[hb];simp,hi⟩
  ·rw[get,if_neg (Ne.symm ej)]at h1
   by_cases e2:i=j
   ·rw[if_pos e2]at h1;exact absurd rfl h1
   ·rw[if_neg e2]at h1
    exact .inr ⟨j,e,h1,old h2 ej⟩
 ·obtain⟨j,e,c,h1,h0,h2⟩:=hx
  by_cases ej:j=h.next
  ·subst ej
   rw[upd_same]at h2;cases h2;exact .inr ⟨i,d,b,hb,hro,hi⟩
  ·rw[get,if_neg (Ne.symm ej)]at h1
   by_cases e2:i=j
   ·rw[if_pos e2]at h1;cases h1
   ·rw[if_neg e2]at h1
    exact .inr ⟨j,e,c,h1,h0,old h2 ej⟩
theorem J.gone {ρ:Rho} {h:Heap} {w:World} (hr:HR ρ h w) (i:Nat):J ρ h w ρ (h.del i) w:=by
 have live:∀j,(h.del i).get j≠none->h.get j≠none:=by
  intro j hj;rw[Heap.get_del]at hj;by_cases e:i=j
  ·rw[if_pos e]at hj;exact absurd rfl hj
  ·rwa[if_neg e]at hj
 have livb:∀j c,(h.del i).get j=some c->h.get j=some c:=by
  intro j c hj;rw[Heap.get_del]at hj;by_cases e:i=j
  ·rw[if_pos e]at hj;cases hj
  ·rwa[if_neg e]at hj
 refine⟨λ_ _=>⟨rfl,rfl⟩,Nat.le_refl _,⟨λj c hj=> ?_,λx y k d e bx cy hx hy hn=>hr.inj x y k d e bx cy (livb x bx hx) (livb y cy hy) hn,hr.fresh,hr.lt⟩,Keep.refl _ _,λx ⟨j,e,h1,h2⟩=> .inr ⟨j,e,live j h1,h2⟩,λx ⟨j,e,c,h1,h0,h2⟩=> .inr ⟨j,e,c,(by rw[Heap.get_del]at h1;split at h1<;>first|cases h1|exact h1),h0,h2⟩⟩;rw[Heap.get_del]at hj;by_cases e:i=j
 ·rw[if_pos e]at hj;cases hj
 ·rw[if_neg e]at hj
  exact hr.blk j c hj
theorem J.grow {ρ:Rho} {h:Heap} {w w':World} (hr:HR ρ h w) (hos:w'.os=w.os) (hout:w'.output=w.output) (hsz:w.heap.size<=w'.heap.size) (hother:∀x,x<w.heap.size->w'.heap[x]? =w.heap[x]?):J ρ h w ρ h w':=
 ⟨λ_ _=>⟨rfl,rfl⟩,Nat.le_refl _,⟨λi b hb=>by
  obtain⟨k,d,h1,h2⟩:=hr.blk i b hb;exact⟨k,d,h1,h2.later (Sub.refl _) (hother k (hr.lt _ _ _ h1))⟩,hr.inj,hr.fresh,λi k d hk=>Nat.lt_of_lt_of_le (hr.lt i k d hk) hsz⟩,⟨hos,hout,hsz,λb hb _=>hother b hb⟩,λ_ h=> .inr h,λ_ h=> .inr h⟩
theorem J.goneW {ρ:Rho} {h:Heap} {w w':World} (hr:HR ρ h w) {i k d:Nat} {b:Blk} (hb:h.get i=some b) (hro:b.ro=false) (hi:ρ i=some (k,d))
  (hos:w'.os=w.os) (hout:w'.output=w.output) (hsz:w'.heap.size=w.heap.size) (hother:∀x,x≠k->w'.heap[x]? =w.heap[x]?):J ρ h w ρ (h.del i) w':=by
 have live:∀j c,(h.del i).get j=some c->i≠j/\h.get j=some c:=by
  intro j c hj;rw[Heap.get_del]at hj;by_cases e:i=j
  ·rw[if_pos e]at hj;cases hj
  ·rw[if_neg e]at hj;exact⟨e,hj⟩
 have liven:∀j,(h.del i).get j≠none->h.get j≠none:=by
  intro j hj;obtain⟨c,hc⟩:=Option.ne_none_iff_exists'.1 hj;rw[(live j c hc).2];simp
 refine⟨λ_ _=>⟨rfl,rfl⟩,Nat.le_refl _,⟨λj c hj=> ?_,λx y k d e bx cy hx hy hn=>hr.inj x y k d e bx cy (live x bx hx).2 (live y cy hy).2 hn,hr.fresh,λx y z hx=>by rw[hsz];exact hr.lt x y z hx⟩,⟨hos,hout,by omega,λx hx hl=> ?_⟩,λx hx=> ?_,λx hx=> ?_⟩
 ·obtain⟨e,hj⟩:=live j c hj
  obtain⟨k2,d2,h1,h2⟩:=hr.blk j c hj;refine⟨k2,d2,h1,h2.later (Sub.refl _) (hother k2 ?_)⟩;intro hk;subst hk;exact e (hr.inj i j k2 d d2 b c hb hj (.inl hro) hi h1)
 ·exact hother x λe=>hl ⟨i,d,b,hb,hro,by rw[e];exact hi⟩
 ·obtain⟨j,e,h1,h2⟩:=hx
  exact .inr ⟨j,e,liven j h1,h2⟩
 ·obtain⟨j,e,c,h1,h2,h3⟩:=hx
  exact .inr ⟨j,e,c,(live j c h1).2,h2,h3⟩
theorem VR.flat {ρ ρ':Rho} {v:CV} {x:Value} (hv:v.flat=true) (h:VR ρ v x):VR ρ' v x:=by
 cases h with
 |bool b=>exact .bool b
 |int k n=>exact .int k n
 |str s=>exact .str s
 |_=>cases hv
theorem all_getD {cs:List CV} {p:CV->Bool} (h:cs.all p=true) {i:Nat} (hi:i<cs.length):p (cs.getD i .undef)=true:=by
 have e:cs.getD i .undef=cs[i]:=by simp[List.getD_eq_getElem?_getD,hi]
 rw[e];exact List.all_eq_true.1 h _ (List.getElem_mem hi)
theorem VR.plain {ρ ρ':Rho} {v:CV} {x:Value} (hv:v.plain=true) (h:VR ρ v x):VR ρ' v x:=by
 cases h with
 |bool b=>exact .bool b
 |int k n=>exact .int k n
 |str s=>exact .str s
 |agg cs arr hl hr h1=>exact .agg cs arr hl (λi hi=>(hr i hi).flat (all_getD hv hi)) h1
 |tup cs arr hl hr=>exact .tup cs arr hl (λi hi=>(hr i hi).flat (all_getD hv hi))
 |_=>cases hv
theorem VRs.plain {ρ ρ':Rho} {vs:List CV} {xs:List Value} (hv:vs.all CV.plain=true) (h:VRs ρ vs xs):VRs ρ' vs xs:=⟨h.1,λi hi=>(h.2 i hi).plain (all_getD hv hi)⟩
def rho0 (g:Nat):Rho:=⟨λi=>if i<g then some (i,0)else none,λ_=>0⟩
def RowsAt (w:World) (rows:List (Nat×List CV)) (ρ:Rho):Prop:=∀r∈rows,∃arr ty fz,w.heap[r.1]? =some (.cells arr ty fz)/\r.2.length<=arr.size/\VRs ρ r.2 (arr.toList.take r.2.length)/\∀c∈r.2,c.one=true
end Go.CM

noncomputable section
namespace Go.CM
structure CmpOk (P:Program) (t:TypeId):Prop where
 cmp:∀i,P.info? t=some i->i.comparable=true
 held:P.stoodInHeld t=false
 guard:P.eqGuardType P.depth t=false
structure EnvOk (P:Program) (E:Env):Prop where
 ty:∀t s,E.ty t=some s->tyOf P t s.cmp=some s/\(s.cmp=true->CmpOk P t)
 fn:∀f s,E.fn f=some s->∃fn,P.funcs[f]? =some fn/\fn.ntmps=s.ntmps/\fn.results.toList=s.results/\fn.body=s.body
structure TyOk (P:Program) (t:TypeId) (s:TyS) (i:TypeInfo) (d:TypeDesc) (z:Value):Prop where
 info:P.info? t=some i
 und:P.underlying t=some d
 zero:i.zero=some z
 cells:consts z.cells.toList=some s.zero
 len:s.zero.length=i.size
 kind:s.kind=kindOf d
 size:s.size=i.size
 bytes:s.bytes=i.bytes
 agg:s.agg=isAggD d
 meths:s.meths=methsOf i.methods.toList
 zagg:aggV z=isAggD d
section
variable {P:Program} {E:Env}
theorem EnvOk.row (ok:EnvOk P E) {t:TypeId} {s:TyS} (h:E.ty t=some s):∃i d z,TyOk P t s i d z:=by
 have h:=(ok.ty t s h).1;unfold tyOf at h;split at h
 ·rename_i i d hi hd
  split at h
  ·rename_i z hz
   split at h
   ·rename_i cs hc
    split at h
    ·rename_i hl
     simp only[Bool.and_eq_true,beq_iff_eq]at hl;obtain⟨hl,hza⟩:=hl;have hl:=Nat.eq_of_beq_eq_true hl;rw[len_eq]at hl;have e:=Option.some.inj h;refine⟨i,d,z,hi,hd,hz,?_,?_,?_,?_,?_,?_,?_,hza⟩<;>rw[<-e]<;>first|exact hc|exact hl|rfl
    ·cases h
   ·cases h
  ·cases h
 ·cases h
theorem run_isAgg {t:TypeId} {s:TyS} {i:TypeInfo} {d:TypeDesc} {z:Value} (k:TyOk P t s i d z) (w:World):(isAgg t).run P w= .ok s.agg w:=by
 unfold isAgg;rw[Sem.run_bind,run_underlying k.und w];simp only[Result.andThen_ok,k.agg];cases d<;>rfl
theorem run_sizeOf {t:TypeId} {s:TyS} {i:TypeInfo} {d:TypeDesc} {z:Value} (k:TyOk P t s i d z) (w:World):(sizeOf t).run P w= .ok s.size w:=by
 simp[sizeOf,typeInfo,k.info,k.size]
theorem VRs.agg {ρ:Rho} {cs:List CV} {arr:Array Value} (h:VRs ρ cs arr.toList) (h1:∀c∈cs,c.one=true):VR ρ (.agg cs) (.agg arr):=by
 refine .agg cs arr (by simpa using h.1) (λi hi=> ?_) (λi hi=> ?_)
 ·have:=h.2 i hi
  simpa[List.getD_eq_getElem?_getD,Array.getD_eq_getD_getElem?]using this
 ·have:cs.getD i .undef=cs[i]:=by simp[List.getD_eq_getElem?_getD,hi]
  rw[this];exact h1 _ (List.getElem_mem hi)
theorem VR.inv_agg {ρ:Rho} {cs:List CV} {x:Value} (h:VR ρ (.agg cs) x):∃arr:Array Value,x= .agg arr/\VRs ρ cs arr.toList/\∀c∈cs,c.one=true:=by
 cases h with
 |agg _ arr hl hr h1=>
  refine⟨arr,rfl,⟨by simpa using hl,λi hi=> ?_⟩,λc hc=> ?_⟩
  ·have:=hr i hi
   simpa[List.getD_eq_getElem?_getD,Array.getD_eq_getD_getElem?]using this
  ·obtain⟨i,hi,rfl⟩:=List.getElem_of_mem hc
   have:=h1 i hi;simpa[List.getD_eq_getElem?_getD,hi]using this
theorem VR.inv_tup {ρ:Rho} {cs:List CV} {x:Value} (h:VR ρ (.tup cs) x):∃arr:Array Value,x= .tuple arr/\VRs ρ cs arr.toList:=by
 cases h with
 |tup _ arr hl hr=>
  refine⟨arr,rfl,⟨by simpa using hl,λi hi=> ?_⟩⟩;have:=hr i hi;simpa[List.getD_eq_getElem?_getD,Array.getD_eq_getD_getElem?]using this
theorem VRs.tup {ρ:Rho} {cs:List CV} {arr:Array Value} (h:VRs ρ cs arr.toList):VR ρ (.tup cs) (.tuple arr):=by
 refine .tup cs arr (by simpa using h.1) (λi hi=> ?_);have:=h.2 i hi;simpa[List.getD_eq_getElem?_getD,Array.getD_eq_getD_getElem?]using this
theorem VR.inv_bool {ρ:Rho} {b:Bool} {x:Value} (h:VR ρ (.bool b) x):x= .bool b:=by cases h;rfl
theorem VR.inv_int {ρ:Rho} {k:IntKind} {n:Int} {x:Value} (h:VR ρ (.int k n) x):x= .int k n:=by cases h;rfl
theorem VR.inv_str {ρ:Rho} {s:List UInt8} {x:Value} (h:VR ρ (.str s) x):∃b:ByteArray,x= .string b/\b.data.toList=s:=by cases h with|str b=>exact⟨b,rfl,rfl⟩
theorem VR.inv_ptr {ρ:Rho} {i o:Nat} {x:Value} (h:VR ρ (.ptr (some (i,o))) x):∃k d,ρ i=some (k,d)/\x= .pointer (some (mk k (d+o))):=by cases h with|ptr _ _ k d h=>exact⟨k,d,h,rfl⟩
theorem VR.inv_nilptr {ρ:Rho} {x:Value} (h:VR ρ (.ptr none) x):x= .pointer none:=by cases h;rfl
theorem VR.inv_slice {ρ:Rho} {i o n c e:Nat} {x:Value} (h:VR ρ (.slice (some (i,o)) n c e) x):
  ∃k d c',ρ i=some (k,d)/\x= .slice (some (mk k (d+o))) n c'/\c<=c'/\(e=0->c'=c)/\n<=c/\c'<=9223372036854775807/\(e≠0->c'*e+o<=ρ.room i):=by
 cases h with|slice _ _ _ _ _ k d c' h1 h2 h3 h6 h4 h5=>exact⟨k,d,c',h1,rfl,h2,h3,h4,h5,h6⟩
theorem VR.inv_nilslice {ρ:Rho} {n c e:Nat} {x:Value} (h:VR ρ (.slice none n c e) x):
  ∃c',x= .slice none n c'/\c<=c'/\(e=0->c'=c)/\n<=c/\c'<=9223372036854775807:=by
 cases h with|nilslice _ _ _ c' h2 h3 h4 h5=>exact⟨c',rfl,h2,h3,h4,h5⟩
theorem VR.inv_empty {ρ:Rho} {x:Value} (h:VR ρ .empty x):∃p c',x= .slice (some p) 0 c'/\c'<=9223372036854775807:=by cases h with|empty p c' hm=>exact⟨p,c',rfl,hm⟩
theorem VR.inv_map {ρ:Rho} {i:Nat} {x:Value} (h:VR ρ (.map (some i)) x):∃k,ρ i=some (k,0)/\x= .map (some k):=by cases h with|map _ k h=>exact⟨k,h,rfl⟩
theorem VR.inv_nilmap {ρ:Rho} {x:Value} (h:VR ρ (.map none) x):x= .map none:=by cases h;rfl
theorem VR.inv_iface {ρ:Rho} {t:TypeId} {v:CV} {x:Value} (h:VR ρ (.iface t v) x):∃y,x= .iface t y/\VR ρ v y:=by cases h with|iface _ _ y h=>exact⟨y,rfl,h⟩
theorem VR.inv_yield {ρ:Rho} {i:Nat} {x:Value} (h:VR ρ (.yield i) x):∃l,ρ i=some (l,0)/\x= .func (.yield l) #[] #[]:=by cases h with|yield _ l h=>exact⟨l,h,rfl⟩
theorem VR.inv_nilIface {ρ:Rho} {x:Value} (h:VR ρ .nilIface x):x= .nilIface:=by cases h;rfl
theorem VR.inv_nilFunc {ρ:Rho} {x:Value} (h:VR ρ .nilFunc x):x= .nilFunc:=by cases h;rfl
theorem VR.inv_fn {ρ:Rho} {f:FuncId} {first caps:List CV} {x:Value} (h:VR ρ (.fn f first caps) x):∃a1 a2:Array Value,x= .func (.func f) a1 a2/\VRs ρ first a1.toList/\VRs ρ caps a2.toList:=by
 cases h with
 |fn _ _ _ a1 a2 hl1 hl2 hr1 hr2=>
  refine⟨a1,a2,rfl,⟨by simpa using hl1,λi hi=> ?_⟩,⟨by simpa using hl2,λi hi=> ?_⟩⟩
  ·have:=hr1 i hi
   simpa[List.getD_eq_getElem?_getD,Array.getD_eq_getD_getElem?]using this
  ·have:=hr2 i hi
   simpa[List.getD_eq_getElem?_getD,Array.getD_eq_getD_getElem?]using this
theorem VRs.fn {ρ:Rho} {f:FuncId} {first caps:List CV} {a1 a2:Array Value} (h1:VRs ρ first a1.toList) (h2:VRs ρ caps a2.toList):VR ρ (.fn f first caps) (.func (.func f) a1 a2):=by
 refine .fn f first caps a1 a2 (by simpa using h1.1) (by simpa using h2.1) (λi hi=> ?_) (λi hi=> ?_)
 ·have:=h1.2 i hi
  simpa[List.getD_eq_getElem?_getD,Array.getD_eq_getD_getElem?]using this
 ·have:=h2.2 i hi
  simpa[List.getD_eq_getElem?_getD,Array.getD_eq_getD_getElem?]using this
theorem part_sound {t:TypeId} {s:TyS} {i:TypeInfo} {d:TypeDesc} {z:Value} (k:TyOk P t s i d z) {ρ:Rho} {cs:List CV} {arr:Array Value} (h:VRs ρ cs arr.toList) (h1:∀c∈cs,c.one=true)
  {off:Nat} {v:CV} (hp:part cs off s.size s.agg=some v) (w:World):∃x,(Go.part t arr off).run P w= .ok x w/\VR ρ v x:=by
 unfold part at hp;cases ha:s.agg with
 |true=>
  rw[ha]at hp;simp only[cut_eq]at hp;split at hp
  ·rename_i hle
   simp only[Option.map_some,Option.some.injEq]at hp;subst hp;refine⟨.agg (arr.extract off (off+s.size)),by simp[Go.part,run_isAgg k,run_sizeOf k,ha],VRs.agg ?_ ?_⟩
   ·have:=(h.drop off).take s.size
    have e:(arr.extract off (off+s.size)).toList=(arr.toList.drop off).take s.size:=by
     simp[Array.toList_extract]
    rw[e];exact this
   ·intro c hc
    exact h1 c (List.mem_of_mem_drop (List.mem_of_mem_take hc))
  ·cases hp
 |false=>
  rw[ha]at hp;simp only[nth_eq]at hp;obtain⟨y,hy,hv⟩:=h.get hp;have hy:arr[off]? =some y:=by rw[<-Array.getElem?_toList];exact hy
  exact⟨y,by simp[Go.part,run_isAgg k,ha,hy],hv⟩
theorem load_sound (ok:EnvOk P E) {ρ:Rho} {h:Heap} {w:World} (hr:HR ρ h w) {t:TypeId} {id off k d:Nat} {v:CV} (hl:load E h t id off=some v) (hi:ρ id=some (k,d)):
  ∃x,(loadVar t (mk k (d+off))).run P w= .ok x w/\VR ρ v x:=by
 unfold load loadB at hl;split at hl
 ·rename_i cs ro hb
  split at hl
  ·rename_i s hs
   obtain⟨ti,td,tz,tk⟩:=ok.row hs;obtain⟨k',d',hi',hrel⟩:=hr.blk id _ hb;rw[hi]at hi';cases hi';obtain⟨arr,ty,fz,g1,g2,g3,g4,g5⟩:=hrel
   have cell:∀j y,((arr.toList.drop d).take cs.length)[j]? =some y->w.cell? (mk k (d+j))=some y:=by
    intro j y hy
    have:arr.toList[d+j]? =some y:=by
     rw[List.getElem?_take]at hy;split at hy
     ·rwa[List.getElem?_drop]at hy
     ·cases hy
    simp only[World.cell?,mk,g1,Option.isSome_none,Bool.false_eq_true,if_false];rwa[Array.getElem?_toList]at this
   unfold part at hl;cases ha:s.agg with
   |true=>
    rw[ha]at hl;simp only[cut_eq]at hl;split at hl
    ·rename_i hle
     simp only[Option.map_some,Option.some.injEq]at hl;subst hl;have hv:=(g3.drop off).take s.size;generalize hxs:((List.take cs.length (arr.toList.drop d)).drop off).take s.size=xs at hv;have hxl:xs.length=s.size:=by rw[hv.1];simp;omega
     have hf:∀j,j<s.size->w.cell? ((mk k (d+off)).add j)=some (xs.getD j undef):=by
      intro j hj;rw[mk_add,Nat.add_assoc];refine cell (off+j) _ ?_;have hj2:j<xs.length:=by omega
      have e:xs[j]? =some (xs.getD j undef):=by simp[List.getD_eq_getElem?_getD,hj2]
      rw[<-e,<-hxs,List.getElem?_take (l:=List.drop off _),if_pos hj,List.getElem?_drop]
     have hl:=run_loadCells (P:=P) w (mk k (d+off)) s.size _ hf
     have e:((List.range s.size).map λj=>xs.getD j undef)=xs:=by
      apply List.ext_getElem
      ·simp[hxl]
      ·intro j h1 h2
       simp[List.getD_eq_getElem?_getD,h2]
     rw[e]at hl;refine⟨.agg xs.toArray,by simp[loadVar,run_isAgg tk,run_sizeOf tk,ha,hl],VRs.agg (by simpa using hv) λc hc=>g4 c (List.mem_of_mem_drop (List.mem_of_mem_take hc))⟩
    ·cases hl
   |false=>
    rw[ha]at hl;simp only[nth_eq]at hl;obtain⟨y,hy,hv⟩:=g3.get hl;exact⟨y,by simp[loadVar,run_isAgg tk,ha,cell off y hy],hv⟩
  ·cases hl
 ·cases hl
theorem cells_sound {ρ:Rho} {v:CV} {x:Value} (h:VR ρ v x) {cs:List CV} (hc:v.cells=some cs):VRs ρ cs x.cells.toList/\∀c∈cs,c.one=true:=by
 have one:∀{v:CV} {x:Value},VR ρ v x->x.cells= #[x]->v.one=true->VRs ρ [v] x.cells.toList/\∀c∈[v],c.one=true:=by
  intro v x h e h1;rw[e];exact⟨VRs.cons h (VRs.nil ρ),λc hc=>by rw[List.mem_singleton]at hc;subst hc;exact h1⟩
 cases h with
 |undef=>cases hc
 |tup=>cases hc
 |agg cs' arr hl hr h1=>
  cases hc;obtain⟨arr',e,h2,h3⟩:=(VR.agg _ arr hl hr h1).inv_agg;cases e;exact⟨h2,h3⟩
 |_=>cases hc;exact one (by first|exact .bool _|exact .int _ _|exact .str _|exact .nilptr|(exact .ptr _ _ _ _ ‹_›)|(exact .nilslice _ _ _ _ ‹_› ‹_› ‹_› ‹_›)|(exact .slice _ _ _ _ _ _ _ _ ‹_› ‹_› ‹_› ‹_› ‹_› ‹_›)|exact .nilmap|(exact .empty _ _ ‹_›)|exact .map _ _ ‹_› |(exact .yield _ _ ‹_›)|(exact .fn _ _ _ _ _ ‹_› ‹_› ‹_› ‹_›)|exact .nilFunc|exact .iface _ _ _ ‹_› |exact .nilIface) rfl rfl
theorem putCells_sound {ρ:Rho} {h h':Heap} {w:World} (hr:HR ρ h w) {id off k d:Nat} {vs:List CV} {xs:List Value} (hp:putCells h id off vs=some h') (hi:ρ id=some (k,d)) (hv:VRs ρ vs xs) (h1:∀c∈vs,c.one=true):
  ∃w',(storeCells (mk k (d+off)) xs).run P w= .ok () w'/\J ρ h w ρ h' w':=by
 unfold putCells at hp;split at hp
 ·rename_i cs hb
  rw[setAt_eq]at hp;split at hp
  ·rename_i hle
   simp only[Option.map_some,Option.some.injEq]at hp;subst hp;obtain⟨k',d',hi',hrel⟩:=hr.blk id _ hb;rw[hi]at hi';cases hi';obtain⟨arr,ty,fz,g1,g2,g3,g4,g5⟩:=hrel;have g5:=g5 rfl;subst g5;have hxl:=hv.1
   have hone:∀x∈xs,x.oneCell'=true:=by
    intro x hx;obtain⟨j,hj,rfl⟩:=List.getElem_of_mem hx;have hj2:j<vs.length:=by omega
    have:=hv.2 j hj2;have e1:vs.getD j .undef=vs[j]:=by simp[List.getD_eq_getElem?_getD,hj2]
    have e2:xs.getD j undef=xs[j]:=by simp[List.getD_eq_getElem?_getD,hj]
    rw[e1,e2]at this;exact this.oneCell (h1 _ (List.getElem_mem hj2))
   have hst:=run_storeCells_at P k (d+off) ty xs 0 arr w g1 (by omega) hone;simp only[Nat.add_zero]at hst;refine⟨_,hst,J.put hr hb rfl hi rfl rfl (by simp) (λx hx=>setRow_other w k x _ (by first|exact hx|exact Ne.symm hx)) ?_⟩;refine⟨_,ty,(0,0),setRow_heap w k arr _ ty _ g1,?_,?_,?_,λ_=>rfl⟩
   ·simp;omega
   ·have hlen:(cs.take off++vs++cs.drop (off+vs.length)).length=cs.length:=by simp;omega
    rw[hlen]
    have e:List.take cs.length (List.drop d (arr.toList.take (d+off)++xs++arr.toList.drop (d+off+xs.length)))=
      ((List.take cs.length (arr.toList.drop d)).take off)++xs++((List.take cs.length (arr.toList.drop d)).drop (off+vs.length)):=by
     apply List.ext_getElem?;intro j;have hal:arr.toList.length=arr.size:=by simp
     simp only[List.getElem?_take,List.getElem?_drop,List.getElem?_append,List.length_append,List.length_take,List.length_drop,Array.length_toList];repeat' split
     all_goals first
      |omega
      |rfl
      |(congr 1;omega)
    simp only[e];exact((g3.take off).append hv).append (g3.drop (off+vs.length))
   ·intro c hc
    simp only[List.mem_append]at hc;rcases hc with(hc|hc)|hc
    ·exact g4 c (List.mem_of_mem_take hc)
    ·exact h1 c hc
    ·exact g4 c (List.mem_of_mem_drop hc)
  ·cases hp
 ·cases hp
theorem store_sound (ok:EnvOk P E) {ρ:Rho} {h h':Heap} {w:World} (hr:HR ρ h w) {t:TypeId} {id off k d:Nat} {v:CV} {x:Value} (hs:store E h t id off v=some h') (hi:ρ id=some (k,d)) (hv:VR ρ v x):
  ∃w',(storeVar t (mk k (d+off)) x).run P w= .ok () w'/\J ρ h w ρ h' w':=by
 unfold store storeV at hs;split at hs
 ·rename_i s hty
  split at hs
  ·rename_i vs hvs
   split at hs
   ·rename_i hn
    have hn:=Nat.eq_of_beq_eq_true hn;rw[len_eq]at hn;obtain⟨ti,td,tz,tk⟩:=ok.row hty;obtain⟨h1,h2⟩:=cells_sound hv hvs;obtain⟨w',h3,h4⟩:=putCells_sound (P:=P) hr hs hi h1 h2;refine⟨w',?_,h4⟩;have hsz:x.cells.size=s.size:=by rw[<-hn,<-h1.1];simp
    simp[storeVar,run_sizeOf tk,hsz,h3]
   ·cases hs
  ·cases hs
 ·cases hs
end
end Go.CM

noncomputable section
namespace Go.CM
def Gives (P:Program) (o:Oper) (a:Act) (w:World) (x:Value) (w':World):Prop:=
 (execOp a.eval o).run P w= .ok (.value x) w'\/((execOp a.eval o).run P w= .ok .skip w'/\x=undef)
def OpOk (P:Program) (o:Oper) (a:Act) (ρ:Rho) (h:Heap) (w:World) (v:CV) (h':Heap):Prop:=
 ∃x w' ρ',Gives P o a w x w'/\J ρ h w ρ' h' w'/\VR ρ' v x
section
variable {P:Program} {E:Env} {o:Oper} {a:Act} {ρ:Rho} {h h':Heap} {w:World} {v:CV} {f:Operand->CV}
theorem OpOk.val (hr:HR ρ h w) {x:Value} (hx:(execOp a.eval o).run P w= .ok (.value x) w) (hv:VR ρ v x):OpOk P o a ρ h w v h:=
 ⟨x,w,ρ,.inl hx,J.refl hr,hv⟩
theorem withH_some {r:Option CV} {p:CV×Heap} (e:withH h r=some p):r=some p.1/\p.2=h:=by
 unfold withH at e;split at e
 ·cases e;exact⟨rfl,rfl⟩
 ·cases e
theorem op_move {x:Operand} (ho:o.op= .move x) (hr:HR ρ h w) (hx:VR ρ v (a.eval x)):OpOk P o a ρ h w v h:= .val hr (by unfold execOp;simp[ho]) hx
theorem op_assign {x:Operand} (ho:o.op= .assign x) (hr:HR ρ h w) (hx:VR ρ v (a.eval x)):OpOk P o a ρ h w v h:= .val hr (by unfold execOp;simp[ho]) hx
theorem op_pick {c x y:Operand} {vc vx vy:CV} (ho:o.op= .pick c x y) (hr:HR ρ h w) (e:oPick vc vx vy h=some (v,h')) (hc:VR ρ vc (a.eval c)) (hx:VR ρ vx (a.eval x)) (hy:VR ρ vy (a.eval y)):OpOk P o a ρ h w v h':=by
 unfold oPick at e;split at e
 ·have hb:=hc.inv_bool
  split at e
  ·cases e;exact .val hr (by unfold execOp;simp[ho,hb,asBool]) hx
  ·cases e;exact .val hr (by unfold execOp;simp[ho,hb,asBool]) hy
 ·cases e
theorem const1_sound {ρ:Rho} {x:Value} {c:CV} (e:const1 x=some c):VR ρ c x/\c.one=true:=by
 unfold const1 at e;split at e<;>(try cases e)<;>refine⟨?_,rfl⟩
 ·exact .bool _
 ·exact .int _ _
 ·exact .str _
 ·exact .nilptr
 ·exact .nilslice 0 0 0 0 (Nat.le_refl _) (λ_=>rfl) (Nat.le_refl _) (by omega)
 ·exact .nilmap
 ·exact .nilFunc
 ·exact .nilIface
theorem consts_sound {ρ:Rho}:∀{l:List Value} {cs:List CV},consts l=some cs->VRs ρ cs l/\∀c∈cs,c.one=true
 |[],cs,e=>by cases e;exact⟨VRs.nil ρ,λc hc=>by cases hc⟩
 |x::r,cs,e=>by
  simp only[consts]at e;split at e
  ·rename_i c hc
   obtain⟨h1,h2⟩:=const1_sound (ρ:=ρ) hc;cases hr:consts r with
   |none=>rw[hr]at e;cases e
   |some cs'=>
    rw[hr]at e;simp only[Option.map_some,Option.some.injEq]at e;subst e;obtain⟨h3,h4⟩:=consts_sound (ρ:=ρ) hr;refine⟨VRs.cons h1 h3,λd hd=> ?_⟩;rcases List.mem_cons.1 hd with rfl|hd
    ·exact h2
    ·exact h4 d hd
  ·cases e
theorem constCV_sound {ρ:Rho} {x:Value} {c:CV} (e:constCV x=some c):VR ρ c x:=by
 unfold constCV at e;split at e
 ·rename_i cs
  cases hr:consts cs.toList with
  |none=>rw[hr]at e;cases e
  |some l=>
   rw[hr]at e;simp only[Option.map_some,Option.some.injEq]at e;subst e;obtain⟨h1,h2⟩:=consts_sound (ρ:=ρ) hr;exact VRs.agg h1 h2
 ·exact(const1_sound e).1
theorem J.alloc (hr:HR ρ h w) {cs:List CV} {arr:Array Value} (ty:TypeId) (h1:VRs ρ cs arr.toList) (h2:∀c∈cs,c.one=true) (w0:World) (e0:w0.heap=w.heap) (e1:w0.os=w.os) (e2:w0.output=w.output):
  J ρ h w (upd ρ h.next (w.heap.size,0) 0) (h.new (.cells cs false)) (w0.alloc (.cells arr ty)):=by
 have hs:=hr.sub (w.heap.size,0) 0;refine J.new hr 0 e1 e2 (by rw[World.size_alloc,e0];omega) (λx hx=> ?_) ?_
 ·rw[heap_alloc_old w0 _ x (by rw[e0];exact hx),e0]
 ·have hn:(w0.alloc (.cells arr ty)).heap[w.heap.size]? =some (.cells arr ty (0,0)):=by rw[<-e0];exact heap_alloc_new _ _
  have hl:=h1.1;simp only[Array.length_toList]at hl;refine⟨arr,ty,(0,0),hn,⟨by omega,by omega⟩,?_,h2,λ_=>rfl⟩;have e:(arr.toList.drop 0).take cs.length=arr.toList:=by rw[List.drop_zero,List.take_of_length_le (by simp;omega)]
  rw[e];exact h1.mono hs
theorem newPtr_some {cs:Option (List CV)} {p:CV×Heap} (e:newPtr h cs=some p):∃l,cs=some l/\p=(.ptr (some (h.next,0)),h.new (.cells l false)):=by
 unfold newPtr at e;split at e
 ·cases e;exact⟨_,rfl,rfl⟩
 ·cases e
theorem VR.new (ρ:Rho) (n k:Nat):VR (upd ρ n (k,0) 0) (.ptr (some (n,0))) (.pointer (some (mk k 0))):=by
 have:=VR.ptr (ρ:=upd ρ n (k,0) 0) n 0 k 0 (upd_same _ _ _ _);simpa using this
theorem op_alloc (ok:EnvOk P E) {t:TypeId} (ho:o.op= .alloc t) (hr:HR ρ h w) (e:newPtr h ((E.ty t).map (·.zero))=some (v,h')):OpOk P o a ρ h w v h':=by
 obtain⟨l,hl,e⟩:=newPtr_some e;cases e;cases hs:E.ty t with
 |none=>rw[hs]at hl;cases hl
 |some s=>
  rw[hs]at hl;cases hl;obtain⟨i,d,z,k⟩:=ok.row hs;obtain⟨h1,h2⟩:=consts_sound (ρ:=ρ) k.cells;refine⟨_,_,_,.inl ?_,J.alloc hr t h1 h2 w rfl rfl rfl,VR.new _ _ _⟩;unfold execOp;simp[ho,Instr.alloc,zeroValue,typeInfo,k.info,k.zero,newVar,newRow,mk]
theorem op_box {t:TypeId} {x:Operand} {vx:CV} (ho:o.op= .box t x) (hr:HR ρ h w) (e:newPtr h vx.cells=some (v,h')) (hx:VR ρ vx (a.eval x)):OpOk P o a ρ h w v h':=by
 obtain⟨l,hl,e⟩:=newPtr_some e;cases e;obtain⟨h1,h2⟩:=cells_sound hx hl;refine⟨_,_,_,.inl ?_,J.alloc hr t h1 h2 w rfl rfl rfl,VR.new _ _ _⟩;unfold execOp;simp[ho,Instr.box,newVar,newRow,mk]
theorem op_load (ok:EnvOk P E) {t:TypeId} {x:Operand} {vx:CV} (ho:o.op= .load t x) (hr:HR ρ h w) (e:oLoad E t vx h=some (v,h')) (hx:VR ρ vx (a.eval x)):OpOk P o a ρ h w v h':=by
 unfold oLoad at e;split at e
 ·rename_i p
  obtain⟨e1,e2⟩:=withH_some e;simp only at e1 e2;subst e2;obtain⟨i,off⟩:=p;obtain⟨k,d,hi,hxe⟩:=hx.inv_ptr;obtain⟨y,h1,h2⟩:=load_sound ok hr e1 hi;exact .val hr (by unfold execOp;simp[ho,Instr.loadAt,Instr.sureAddr,hxe,h1]) h2
 ·cases e
theorem op_store (ok:EnvOk P E) {t:TypeId} {x y:Operand} {vx vy:CV} (ho:o.op= .store t x y) (hr:HR ρ h w) (e:oStore E t vx vy h=some (v,h')) (hx:VR ρ vx (a.eval x)) (hy:VR ρ vy (a.eval y)):OpOk P o a ρ h w v h':=by
 unfold oStore ofH at e;split at e
 ·rename_i p
  split at e
  ·rename_i h2 hs
   cases e;obtain⟨i,off⟩:=p;obtain⟨k,d,hi,hxe⟩:=hx.inv_ptr;obtain⟨w',h3,h4⟩:=store_sound ok hr hs hi hy;exact⟨undef,w',ρ,.inr ⟨by unfold execOp;simp[ho,Instr.storeAt,Instr.sureAddr,hxe,h3],rfl⟩,h4,.undef _⟩
  ·cases e
 ·cases e
theorem op_nil {x:Operand} {vx:CV} (ho:o.op= .nilCheck x) (hr:HR ρ h w) (e:oNil vx h=some (v,h')) (hx:VR ρ vx (a.eval x)):OpOk P o a ρ h w v h':=by
 unfold oNil at e;split at e
 ·rename_i p
  cases e;obtain⟨i,off⟩:=p;obtain⟨k,d,hi,hxe⟩:=hx.inv_ptr;exact .val hr (by unfold execOp;simp[ho,hxe]) (hxe▸hx)
 ·cases e
  obtain⟨a1,a2,hxe,_⟩:=hx.inv_fn;exact .val hr (by unfold execOp;simp[ho,hxe]) (hxe▸hx)
 ·cases e
  obtain⟨l,_,hxe⟩:=hx.inv_yield;exact .val hr (by unfold execOp;simp[ho,hxe]) (hxe▸hx)
 ·cases e
  obtain⟨y,hxe,_⟩:=hx.inv_iface;exact .val hr (by unfold execOp;simp[ho,hxe]) (hxe▸hx)
 ·cases e
theorem foldl_put (off:Nat):∀(l:List Value) (k:Nat) (arr:Array Value),
  ((l.zipIdx k).foldl (λ(cs:Array Value) (p:Value×Nat)=>cs.setIfInBounds (off+p.2) p.1) arr).size=arr.size/\
  ∀i,((l.zipIdx k).foldl (λ(cs:Array Value) (p:Value×Nat)=>cs.setIfInBounds (off+p.2) p.1) arr).getD i undef=
   if off+k<=i/\i<off+k+l.length/\i<arr.size then l.getD (i-(off+k)) undef else arr.getD i undef
 |[],k,arr=>by
  refine⟨rfl,λi=> ?_⟩;rw[if_neg (by simp;omega)];rfl
 |v::l,k,arr=>by
  have ih:=foldl_put off l (k+1) (arr.setIfInBounds (off+k) v);simp only[List.zipIdx_cons,List.foldl_cons];refine⟨by rw[ih.1];simp,λi=> ?_⟩;rw[ih.2 i];simp only[Array.size_setIfInBounds,List.length_cons];by_cases h1:off+(k+1)<=i/\i<off+(k+1)+l.length/\i<arr.size
  ·rw[if_pos h1,if_pos (by omega)]
   have:i-(off+k)=(i-(off+(k+1)))+1:=by omega
   rw[this];simp
  ·rw[if_neg h1]
   by_cases h2:i=off+k
   ·subst h2
    by_cases h3:off+k<arr.size
    ·rw[if_pos (by omega)]
     simp[h3]
    ·rw[if_neg (by omega)]
     simp[h3]
   ·rw[if_neg (by omega)]
    simp[Ne.symm h2]
theorem put_list (off:Nat) (xs arr:Array Value) (hle:off+xs.size<=arr.size):
  (xs.zipIdx.foldl (λcs (c,j)=>cs.setIfInBounds (off+j) c) arr).toList=arr.toList.take off++xs.toList++arr.toList.drop (off+xs.size):=by
 have e:(xs.zipIdx.foldl (λ(cs:Array Value) (p:Value×Nat)=>cs.setIfInBounds (off+p.2) p.1) arr)=(xs.toList.zipIdx 0).foldl (λ(cs:Array Value) (p:Value×Nat)=>cs.setIfInBounds (off+p.2) p.1) arr:=by
  rw[<-Array.foldl_toList];simp
 have hf:=foldl_put off xs.toList 0 arr;show(xs.zipIdx.foldl (λ(cs:Array Value) (p:Value×Nat)=>cs.setIfInBounds (off+p.2) p.1) arr).toList=_;rw[e];generalize ((xs.toList.zipIdx 0).foldl (λ(cs:Array Value) (p:Value×Nat)=>cs.setIfInBounds (off+p.2) p.1) arr)=r at hf;obtain⟨h1,h2⟩:=hf;apply List.ext_getElem
 ·simp;omega
 ·intro j g1 g2
  have hj:j<r.size:=by simpa using g1
  have:=h2 j;simp only[Nat.add_zero,Array.length_toList]at this;have e1:r.getD j undef=r[j]:=by simp[hj]
  rw[e1]at this;rw[Array.getElem_toList,this];simp only[List.getElem_append,List.length_take,List.getElem_take,List.length_append,Array.length_toList];have hm:min off arr.size=off:=by omega
  simp only[hm];by_cases c1:j<off
  ·rw[dif_pos (by omega),dif_pos c1,if_neg (by omega)]
   have:j<arr.size:=by omega
   simp[this]
  ·by_cases c2:j<off+xs.size
   ·rw[dif_pos c2,dif_neg c1,if_pos (by omega)]
    have:j-off<xs.size:=by omega
    simp[List.getD_eq_getElem?_getD,this]
   ·rw[dif_neg c2,if_neg (by omega)]
    have:j<arr.size:=by omega
    simp only[List.getElem_drop,Array.getElem_toList];simp[this]
    congr 1;omega
def PartsR (ρ:Rho):List (Nat×CV)->List (Nat×Value)->Prop
 |[],[]=>True
 |p::ps,q::qs=>p.1=q.1/\VR ρ p.2 q.2/\PartsR ρ ps qs
 |_,_=>False
theorem fill_sound (pl:Nat->Option (Nat×Nat)):∀(ps:List (Nat×CV)) (qs:List (Nat×Value)) (cs cs':List CV) (arr:Array Value),
  fillAt pl cs ps=some cs'->VRs ρ cs arr.toList->(∀c∈cs,c.one=true)->PartsR ρ ps qs->∃arr',Instr.fill pl arr qs=some arr'/\VRs ρ cs' arr'.toList/\(∀c∈cs',c.one=true)
 |[],[],cs,cs',arr,e,h1,h2,_=>by
  simp only[fillAt,Option.some.injEq]at e;subst e;exact⟨arr,rfl,h1,h2⟩
 |(i,v)::ps,(j,x)::qs,cs,cs',arr,e,h1,h2,hp=>by
  obtain⟨e0,hv,hp⟩:=hp;simp only at e0 hv;subst e0;simp only[fillAt]at e;simp only[Instr.fill];split at e
  ·cases e
  ·rename_i off size hpl
   split at e
   ·cases e
   ·rename_i vs hvs
    split at e
    ·cases e
    ·rename_i hn
     have hn:=Nat.eq_of_beq_eq_true hn;rw[len_eq]at hn;rw[setAt_eq]at e;obtain⟨h3,h4⟩:=cells_sound hv hvs;have hxs:x.cells.size=size:=by have:=h3.1;simp at this;omega
     have hcl:=h1.1;simp only[Array.length_toList]at hcl;by_cases hle:off+vs.length<=cs.length
     ·rw[if_pos hle]at e
      simp only at e;rw[hpl];simp only;rw[if_neg (by simp[hxs];omega)];refine fill_sound pl ps qs _ cs' _ e ?_ ?_ hp
      ·rw[put_list off x.cells arr (by omega)]
       have e2:off+x.cells.size=off+vs.length:=by omega
       rw[e2];exact((h1.take off).append h3).append (h1.drop _)
      ·intro c hc
       simp only[List.mem_append]at hc;rcases hc with(hc|hc)|hc
       ·exact h2 c (List.mem_of_mem_take hc)
       ·exact h4 c hc
       ·exact h2 c (List.mem_of_mem_drop hc)
     ·rw[if_neg hle]at e;cases e
 |[],_::_,_,_,_,_,_,_,hp=>hp.elim
 |_::_,[],_,_,_,_,_,_,hp=>hp.elim
theorem parts_sound {ps:Array (Nat×Operand)} (hx:∀x,x∈ps.toList.map (·.2)->VR ρ (f x) (a.eval x)):PartsR ρ (parts f ps.toList) (ps.map λ(i,x)=>(i,a.eval x)).toList:=by
 rw[Array.toList_map];generalize ps.toList=l at hx;unfold parts
 induction l with
 |nil=>trivial
 |cons p l ih=>exact⟨rfl,hx p.2 (by simp),ih λx hx'=>hx x (by simp at hx' ⊢;exact .inr hx')⟩
theorem sizeOf_row (ok:EnvOk P E) {t:TypeId} {n:Nat} (e:sizeOf? E t=some n) (w:World):(sizeOf t).run P w= .ok n w:=by
 unfold sizeOf? at e;cases hs:E.ty t with
 |none=>rw[hs]at e;cases e
 |some s=>
  rw[hs]at e;cases e;obtain⟨i,d,z,k⟩:=ok.row hs;exact run_sizeOf k w
theorem places_sound (ok:EnvOk P E) (w:World):∀(l:List Field) (pl:List (Nat×Nat)),placesOf E (l.map λf=>(f.type,f.offset))=some pl->
  (l.mapM λf=>(do pure (f.offset,<-sizeOf f.type):Sem (Nat×Nat))).run P w= .ok pl w
 |[],pl,e=>by simp only[List.map_nil,placesOf,Option.some.injEq]at e;subst e;simp
 |fl::l,pl,e=>by
  simp only[List.map_cons,placesOf]at e;split at e
  ·rename_i n hn
   split at e
   ·rename_i r hr
    cases e;have:=places_sound ok w l r hr;simp only[List.mapM_cons,Sem.run_bind,sizeOf_row ok hn,Result.andThen_ok,Sem.run_pure];rw[this];simp
   ·cases e
  ·cases e
theorem kind_struct {d:TypeDesc} {fs:List (TypeId×Nat)} (e:kindOf d= .struct fs):∃l:Array Field,d= .struct l/\fs=l.toList.map (λf=>(f.type,f.offset))/\∀f∈l.toList,f.name≠ "_" :=by
 unfold kindOf at e;split at e<;>try cases e
 rename_i l;split at e
 ·rename_i hb
  cases e;refine⟨l,rfl,rfl,λf hf=> ?_⟩;rw[List.all_eq_true]at hb;simpa using hb f hf
 ·cases e
theorem kind_array {d:TypeDesc} {n:Nat} {t:TypeId} (e:kindOf d= .array n t):d= .array n t:=by
 unfold kindOf at e;split at e<;>first|(cases e;rfl)|cases e|(split at e<;>cases e)
theorem kind_slice {d:TypeDesc} {t:TypeId} (e:kindOf d= .slice t):d= .slice t:=by
 unfold kindOf at e;split at e<;>first|(cases e;rfl)|cases e|(split at e<;>cases e)
theorem kind_map {d:TypeDesc} {k t:TypeId} (e:kindOf d= .map k t):d= .map k t:=by
 unfold kindOf at e;split at e<;>first|(cases e;rfl)|cases e|(split at e<;>cases e)
theorem kind_pointer {d:TypeDesc} {t:TypeId} (e:kindOf d= .pointer t):d= .pointer t:=by
 unfold kindOf at e;split at e<;>first|(cases e;rfl)|cases e|(split at e<;>cases e)
theorem kind_int {d:TypeDesc} {t:IntKind} (e:kindOf d= .int t):d= .int t:=by
 unfold kindOf at e;split at e<;>first|(cases e;rfl)|cases e|(split at e<;>cases e)
theorem kind_bool {d:TypeDesc} (e:kindOf d= .bool):d= .bool:=by
 unfold kindOf at e;split at e<;>first|rfl|cases e|(split at e<;>cases e)
theorem kind_string {d:TypeDesc} (e:kindOf d= .string):d= .string:=by
 unfold kindOf at e;split at e<;>first|rfl|cases e|(split at e<;>cases e)
theorem kind_iface {d:TypeDesc} (e:kindOf d= .iface):∃ms,d= .interface ms:=by
 unfold kindOf at e;split at e<;>first|exact⟨_,rfl⟩|cases e|(split at e<;>cases e)
theorem kind_func {d:TypeDesc} (e:kindOf d= .func):∃p r v,d= .func p r v:=by
 unfold kindOf at e;split at e<;>first|exact⟨_,_,_,rfl⟩|cases e|(split at e<;>cases e)
theorem op_build (ok:EnvOk P E) {t:TypeId} {ps:Array (Nat×Operand)} (ho:o.op= .build t ps) (hr:HR ρ h w) (e:oBuild E (E.ty t) (parts f ps.toList) h=some (v,h'))
  (hx:∀x,x∈ps.toList.map (·.2)->VR ρ (f x) (a.eval x)):OpOk P o a ρ h w v h':=by
 have hp:=parts_sound hx;unfold oBuild at e;split at e
 ·rename_i s hs
  obtain⟨i,d,z,k⟩:=ok.row hs;obtain⟨h1,h2⟩:=consts_sound (ρ:=ρ) k.cells;split at e
  ·rename_i fs hk
   split at e
   ·rename_i pl hpl
    obtain⟨e1,e2⟩:=withH_some e;simp only at e1 e2;subst e2;cases hf:fillAt (nth pl) s.zero (parts f ps.toList)with
    |none=>rw[hf]at e1;cases e1
    |some cs=>
     rw[hf]at e1;simp only[Option.map_some,Option.some.injEq]at e1;subst e1;obtain⟨l,rfl,rfl,_⟩:=kind_struct (k.kind.symm.trans hk);obtain⟨arr',g1,g2,g3⟩:=fill_sound (nth pl) _ _ _ _ z.cells hf h1 h2 hp;have hpr:=places_sound ok w l.toList pl hpl;refine .val (x:= .agg arr') hr ?_ (VRs.agg g2 g3);have e3:(nth pl)=λi=>(pl.toArray)[i]? :=by funext i;rw[nth_eq];simp
     rw[e3]at g1
     have hpa:(l.mapM λf=>(do pure (f.offset,<-sizeOf f.type):Sem (Nat×Nat))).run P w= .ok pl.toArray w:=by
      rw[Array.mapM_eq_mapM_toList,Sem.run_map,hpr];rfl
     unfold execOp;simp only[ho,Instr.build,Sem.run_bind,zeroValue,typeInfo,k.info,k.zero,run_program,Sem.run_pure,Result.andThen_ok,run_underlying k.und];rw[hpa];simp only[Result.andThen_ok];rw[g1];rfl
   ·cases e
  ·rename_i n el hk
   split at e
   ·rename_i m hm
    obtain⟨e1,e2⟩:=withH_some e;simp only at e1 e2;subst e2;cases hf:fillAt (λi=>some (i*m,m)) s.zero (parts f ps.toList)with
    |none=>rw[hf]at e1;cases e1
    |some cs=>
     rw[hf]at e1;simp only[Option.map_some,Option.some.injEq]at e1;subst e1;have hd:=kind_array (k.kind.symm.trans hk);subst hd;obtain⟨arr',g1,g2,g3⟩:=fill_sound _ _ _ _ _ z.cells hf h1 h2 hp;refine .val (x:= .agg arr') hr ?_ (VRs.agg g2 g3);unfold execOp;simp only[ho,Instr.build,Sem.run_bind,zeroValue,typeInfo,k.info,k.zero,run_program,Sem.run_pure,Result.andThen_ok,run_underlying k.und,sizeOf_row ok hm];rw[g1];rfl
   ·cases e
  ·cases e
 ·cases e
end
end Go.CM
