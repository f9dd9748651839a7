/- Drawn regions: the facts of all operations, from the run. No condition. -/
import Derived.Test.YtfheibkikpefkaaGreatDoorCmQ
import Derived.Orders
set_option linter.unusedVariables false
set_option linter.unusedSimpArgs false
noncomputable section
namespace Go.CM
section
variable {P:Program} {E:Env}
theorem tri_ok {o:Oper} {tmps:Tm} {e:Ev} (h:∀(ρ:Rho) (a:Act) (w:World),HR ρ e.d w->(∀x∈o.op.operands,VR ρ (cvOf E.globs tmps x) (a.eval x))->OpOk P o a ρ e.d w e.v e.d'):Tri P E o tmps e:=by
 intro ρ a w hr _ hop next Q hn ro;obtain⟨x,w1,ρ1,g1,g2,g3⟩:=h ρ a w hr hop;exact wp_of_gives g1 (hn x ρ1 w1 g2 g3)
theorem call_facts {bs:List Bits} {all r:List Oper} {i:Nat} {recs:List Rec} {ev0:Nat->Ev} {tmps:Tm} {h:Heap} {o:Oper} {hid:List Nat} {x:R} {run0:Run} (ho:all[i]? =some o) (hg:guardOn all tmps o=some true)
  (hs:dCall run0 bs all r i recs o.dst tmps h (without h hid) hid x≠ .stop) (hrec:RecsOk i ev0 recs) (hnx:∀j,j<i->(ev0 j).d'.next<=h.next) (hhid:hides ((nth bs i).getD Bits.nil) recs=some hid)
  (htri:∀v d',x= .val v d'->Tri P E o tmps ⟨true,v,without h hid,d'⟩)
  (ih:∀(e:Ev) recs' tmps' h',run0 (.draw bs all r (i+1) recs') tmps' h'≠ .stop->RecsOk (i+1) (λj=>if j=i then e else ev0 j) recs'->(∀j,j<i+1->(if j=i then e else ev0 j).d'.next<=h'.next)->
   DrawRes P E bs all (i+1) (λj=>if j=i then e else ev0 j) tmps' h' (run0 (.draw bs all r (i+1) recs') tmps' h')):
  DrawRes P E bs all i ev0 tmps h (dCall run0 bs all r i recs o.dst tmps h (without h hid) hid x):=by
 unfold dCall at hs ⊢;cases x with
 |val v d'=>
  have htri:=htri v d' rfl;simp only at hs ⊢;cases hq:Nat.ble h.next d'.next&&(looks ((nth bs i).getD Bits.nil) (without h hid) d' recs&&all1 hid λk=>isNo (d'.get k))with
  |false=>rw[hq]at hs;exact absurd rfl hs
  |true=>
   rw[hq]at hs;simp only at hs ⊢;rw[Bool.and_eq_true,Bool.and_eq_true,all1_iff]at hq;obtain⟨q1,q2,q3⟩:=hq;have hle:=Nat.le_of_ble_eq_true q1;have hno:∀k∈hid,d'.get k=none:=λk hk=>(isNo_iff _).1 (q3 k hk);have hbn:(back d' ⟨h.t,d'.next,none⟩ hid).next=d'.next:=by rw[back_next]
   have hbg:∀k,(back d' ⟨h.t,d'.next,none⟩ hid).get k=if k∈hid then h.get k else d'.get k:=λk=>back_get _ _ _ _
   refine draw_cons (e:=⟨true,v,without h hid,d'⟩) ho ⟨hg,λ_=>htri,(λe=>by cases e),without_next _ _,hbn,by rw[hbn];exact hle,λk b hb=> ?_,λk=>⟨λhT=> ?_,λhT=> ?_⟩,rfl⟩ (λj' hj'=> ?_) ?_
   ·have hb:(without h hid).get k=some b:=hb
    rw[without_get]at hb;split at hb
    ·cases hb
    ·exact hb
   ·rw[hbg]
    split
    ·rename_i hk
     have h1:(without h hid).get k=none:=by rw[without_get,if_pos hk]
     exact absurd ((hno k hk).trans h1.symm) hT
    ·rfl
   ·rw[hbg]
    split
    ·rfl
    ·rename_i hk
     have hT:d'.get k=(without h hid).get k:=Classical.not_not.1 hT;rw[hT,without_get,if_neg hk]
   ·rcases hrec j' hj' with h1|⟨r',h1,h2,h3⟩
    ·exact .inr (Apart.silentL h1)
    ·rcases call_apart (v:=v) rfl hhid q2 hno h1 h3 with h4|h4
     ·left;rw[<-nth_eq,<-h2];exact h4
     ·right;exact h4
   ·refine ih _ _ _ _ hs (recs_cons (r:= .call i (without h hid) d') hrec rfl ⟨rfl,rfl⟩) λj hj=> ?_
    rw[hbn];by_cases e0:j=i
    ·rw[if_pos e0];exact Nat.le_refl _
    ·rw[if_neg e0]
     exact Nat.le_trans (hnx j (by omega)) hle
 |pan v d'=>exact absurd rfl hs
 |code _ _ _=>exact absurd rfl hs
 |stop=>exact absurd rfl hs
theorem draw_facts (W:EnvW P E) {bs:List Bits} {all:List Oper}:∀(m:Nat),(∀m',m'<m->Snd P E m')->∀(rest:List Oper) (i:Nat) (recs:List Rec) (tmps:Tm) (h:Heap) (ev0:Nat->Ev),
  run E m (.draw bs all rest i recs) tmps h≠ .stop->all.drop i=rest->RecsOk i ev0 recs->(∀j,j<i->(ev0 j).d'.next<=h.next)->
  DrawRes P E bs all i ev0 tmps h (run E m (.draw bs all rest i recs) tmps h)
 |0,_,_,_,_,_,_,_,hs,_,_,_=>absurd rfl hs
 |m+1,S,rest,i,recs,tmps,h,ev0,hs,hk,hrec,hnx=>by
  have e:run E (m+1) (.draw bs all rest i recs) tmps h=sDraw E (run E m) bs all rest i recs tmps h:=rfl;rw[e]at hs ⊢;unfold sDraw at hs ⊢;cases rest with
  |nil=>
   simp only
   have hlen:all.length<=i:=by
    have:=congrArg List.length hk;simp at this;omega
   refine⟨ev0,λ_=>tmps,λ_=>h,λ_ _=>rfl,rfl,rfl,rfl,λj o hij ho=> ?_⟩;have:=(List.getElem?_eq_some_iff.1 ho).1;omega
  |cons o r=>
   obtain⟨ho,hk2⟩:=drop_cons hk
   have ih:∀(e:Ev) recs' tmps' h',run E m (.draw bs all r (i+1) recs') tmps' h'≠ .stop->RecsOk (i+1) (λj=>if j=i then e else ev0 j) recs'->(∀j,j<i+1->(if j=i then e else ev0 j).d'.next<=h'.next)->
     DrawRes P E bs all (i+1) (λj=>if j=i then e else ev0 j) tmps' h' (run E m (.draw bs all r (i+1) recs') tmps' h'):=
    λe recs' tmps' h' h1 h2 h3=>draw_facts W m (λm' hm'=>S m' (by omega)) r (i+1) recs' tmps' h' _ h1 hk2 h2 h3
   simp only at hs ⊢;cases hg:guardOn all tmps o with
   |none=>rw[hg]at hs;exact absurd rfl hs
   |some b=>
    rw[hg]at hs;cases b with
    |false=>
     simp only at hs ⊢;have hsil:=silent_empty h.next false (.tup []);refine draw_cons (h':=h) (e:=⟨false,.tup [],⟨.leaf,h.next,none⟩,⟨.leaf,h.next,none⟩⟩) ho ⟨hg,(λe=>by cases e),λ_=>⟨rfl,hsil,rfl⟩,rfl,rfl,Nat.le_refl _,λk b hb=> ?_,λk=>⟨λhT=>absurd rfl hT,λ_=>rfl⟩,rfl⟩ (λj' _=> .inr (Apart.silentR hsil)) ?_
     ·rw[(hsil k).1]at hb;cases hb
     ·refine ih _ _ _ _ hs (recs_silent hrec hsil) λj hj=> ?_
      by_cases e0:j=i
      ·rw[if_pos e0];exact Nat.le_refl _
      ·rw[if_neg e0];exact hnx j (by omega)
    |true=>
     simp only at hs ⊢
     have plain:∀(hs:dNext (run E m) bs all r i recs o.dst tmps h (fpOf o.op (cvOf E.globs tmps)) (wrOf o.op) (opVal E o.op (cvOf E.globs tmps) (only h (fpOf o.op (cvOf E.globs tmps))))≠ .stop),
       DrawRes P E bs all i ev0 tmps h (dNext (run E m) bs all r i recs o.dst tmps h (fpOf o.op (cvOf E.globs tmps)) (wrOf o.op) (opVal E o.op (cvOf E.globs tmps) (only h (fpOf o.op (cvOf E.globs tmps))))):=λhs=>
      next_facts ho hg hs hrec hnx (λp hp=>opVal_touch (v:=p.1) (h':=p.2) hp) (λp hp=>tri_ok λρ a w hr hop=>op_sound W.ok hr (v:=p.1) (h':=p.2) hp hop) ih
     unfold dOp at hs ⊢;cases hop:o.op with
     |call c=>
      rw[hop]at hs;simp only at hs ⊢;cases hbi:isBuiltin c.callee with
      |some b=>
       rw[hbi]at hs;simp only at hs ⊢;have hbc:=isBuiltin_some hbi;obtain⟨callee,args,tys⟩:=c;simp only at hbc;subst hbc;cases hap:isApp b with
       |false=>
        rw[hap]at hs;simp only at hs ⊢
        have:=next_facts (P:=P) (E:=E) (fp:=fpOf o.op (cvOf E.globs tmps)) (x:=builtinV E (only h (fpOf o.op (cvOf E.globs tmps))) b tys.toList (args.toList.map (cvOf E.globs tmps))) (run0:=run E m) (bs:=bs) (r:=r) ho hg (by rw[hop];exact hs) hrec hnx
         (λp hp=>by rw[hop]at hp ⊢;exact builtin_touch (v:=p.1) (h':=p.2) hp) (λp hp=>tri_ok λρ a w hr hopr=>builtin_sound W.ok hr hop (v:=p.1) (h':=p.2) hp λx hx=>hopr x (by rw[hop];simp[Op.operands,Call.operands];simpa using hx)) ih
        rw[hop]at this;exact this
       |true=>
        rw[hap]at hs;simp only at hs ⊢;have hb:=isApp_true hap;subst hb
        have:=nextW_facts (P:=P) (E:=E) (fp:=fpOf o.op (cvOf E.globs tmps)) (ws:=apWs (args.toList.map (cvOf E.globs tmps))) (x:=builtinV E (only h (fpOf o.op (cvOf E.globs tmps))) .append tys.toList (args.toList.map (cvOf E.globs tmps))) (run0:=run E m) (bs:=bs) (r:=r) ho hg (by rw[hop];exact hs) hrec hnx
         (λk hk=>by
          have:=apWs_sub _ k hk;rw[hop];simpa[fpOf,List.map_map,Function.comp_def]using this)
         (λp hp=>app_touch (v:=p.1) (h':=p.2) hp) (λp hp=>tri_ok λρ a w hr hopr=>builtin_sound W.ok hr hop (v:=p.1) (h':=p.2) hp λx hx=>hopr x (by rw[hop];simp[Op.operands,Call.operands];simpa using hx)) ih
        rw[hop]at this;exact this
      |none=>
       rw[hbi]at hs;simp only at hs ⊢;unfold dHid at hs ⊢;cases hhid:hides ((nth bs i).getD Bits.nil) recs with
       |none=>rw[hhid]at hs;exact absurd rfl hs
       |some hid=>
        rw[hhid]at hs;simp only at hs ⊢;refine call_facts ho hg hs hrec hnx hhid (λv d' hx=> ?_) ih;intro ρ a w hr g hopr next Q hn ro;refine callee_sound W (S m (Nat.lt_succ_self m)) hop hr g hopr hx (by simp) (λv' h' x ρ' w' e0 j hv=> ?_) (λv' h' x ρ' w' e0 j hv=>by cases e0) ro;cases e0;exact hn x ρ' w' j hv
     |_=>
      rw[hop]at hs;simp only at hs ⊢;have:=plain (by rw[hop];exact hs);rw[hop]at this;exact this
end
end Go.CM

noncomputable section
namespace Go.CM
section
variable {α:Type}
open Classical in
noncomputable def last (S:Nat->Bool) (T:Nat->Prop) (v:Nat->α) (b:α):Nat->α
 |0=>b
 |n+1=>if S n=true/\T n then v n else last S T v b n
variable {S S':Nat->Bool} {T:Nat->Prop} {v:Nat->α} {b:α}
theorem last_congr:∀{n:Nat},(∀i,i<n->T i->S i=S' i)->last S T v b n=last S' T v b n
 |0,_=>rfl
 |n+1,h=>by
  have ih:=last_congr (n:=n) λi hi ht=>h i (by omega) ht;simp only[last];by_cases ht:T n
  ·rw[h n (Nat.lt_succ_self _) ht,ih]
  ·rw[if_neg (λhh=>ht hh.2),if_neg (λhh=>ht hh.2),ih]
theorem last_at {i:Nat} (hs:S i=true) (ht:T i):∀{n:Nat},i<n->(∀j,i<j->j<n->S j=true->¬T j)->last S T v b n=v i
 |0,hi,_=>by omega
 |n+1,hi,hl=>by
  simp only[last];by_cases e:i=n
  ·subst e;rw[if_pos ⟨hs,ht⟩]
  ·rw[if_neg (λhh=>hl n (by omega) (Nat.lt_succ_self _) hh.1 hh.2)]
   exact last_at hs ht (by omega) λj h1 h2=>hl j h1 (by omega)
theorem last_chain {X:Nat->α} (h0:X 0=b) {N:Nat} (h1:∀j,j<N->(T j->X (j+1)=v j)/\(¬T j->X (j+1)=X j)):∀{n i:Nat},n<=N->i<=n->last (λj=>decide (j<i)) T v b n=X i
 |0,i,_,hi=>by
  have:i=0:=by omega
  subst this;exact h0.symm
 |n+1,i,hn,hi=>by
  simp only[last];by_cases e:i=n+1
  ·subst e
   have e2:last (λj=>decide (j<n+1)) T v b n=X n:=by
    rw[last_congr (S':=λj=>decide (j<n))]
    ·exact last_chain h0 h1 (by omega) (Nat.le_refl _)
    ·intro j hj _
     simp only[decide_eq_decide];omega
   rw[e2];by_cases ht:T n
   ·rw[if_pos ⟨by simp,ht⟩,(h1 n (by omega)).1 ht]
   ·rw[if_neg (λhh=>ht hh.2),(h1 n (by omega)).2 ht]
  ·rw[if_neg (λhh=>by have:=hh.1;simp only[decide_eq_true_eq]at this;omega)]
   exact last_chain h0 h1 (by omega) (by omega)
theorem last_none:∀{n:Nat},(∀i,i<n->S i=false)->last S T v b n=b
 |0,_=>rfl
 |n+1,h=>by
  simp only[last];rw[if_neg (λhh=>by rw[h n (Nat.lt_succ_self _)]at hh;cases hh.1)];exact last_none λi hi=>h i (by omega)
theorem last_prop {p:α->Prop} (hb:p b):∀{n:Nat},(∀i,i<n->S i=true->T i->p (v i))->p (last S T v b n)
 |0,_=>hb
 |n+1,h=>by
  simp only[last];split
  ·rename_i hh;exact h n (Nat.lt_succ_self _) hh.1 hh.2
  ·exact last_prop hb λi hi=>h i (by omega)
end
theorem bit_nat (j a:Nat):Nat.beq (Nat.land (Nat.shiftRight a j) 1) 1=Nat.testBit a j:=by
 have h1:Nat.land (Nat.shiftRight a j) 1=(a>>>j)%2:=Nat.and_one_is_mod _;rw[h1,Nat.testBit_eq_decide_div_mod_eq,Nat.shiftRight_eq_div_pow,Bool.eq_iff_iff,Nat.beq_eq,decide_eq_true_iff]
theorem or_nat (j a b:Nat):Nat.testBit (Nat.lor a b) j=true↔Nat.testBit a j=true\/Nat.testBit b j=true:=by
 show Nat.testBit (a ||| b) j=true↔_;rw[Nat.testBit_or,Bool.or_eq_true]
theorem one_nat (j k:Nat):Nat.testBit (Nat.shiftLeft 1 k) j=true↔j=k:=by
 show Nat.testBit (1<<<k) j=true↔_;rw[Nat.testBit_shiftLeft];by_cases h:k<=j
 ·simp only[h,decide_true,Bool.true_and,Nat.testBit_one_eq_true_iff_self_eq_zero]
  omega
 ·simp only[h,decide_false,Bool.false_and]
  constructor
  ·intro e;cases e
  ·intro e;omega
theorem bits_mem (j:Nat) (a:Bits):j∈a↔@Nat.testBit a j=true:=
 (Bool.eq_iff_iff.1 (bit_nat j a))
theorem mem_nil (j:Nat):¬j∈Bits.nil:=λh=>by
 have h:Nat.testBit 0 j=true:=(bits_mem j Bits.nil).1 h;rw[Nat.zero_testBit]at h;cases h
theorem mem_or (j:Nat) (a b:Bits):j∈bitsOr a b↔j∈a\/j∈b:=by
 rw[bits_mem,bits_mem,bits_mem];exact or_nat j a b
theorem mem_one (j k:Nat):j∈bitsOne k↔j=k:=by
 rw[bits_mem];exact one_nat j k
theorem mem_aheadOf (bs:List Bits) (j:Nat):∀(es:List Edge),j∈aheadOf bs es↔∃e∈es,Region.binds .any e=true/\(j=e.on\/j∈(bs[e.on]?).getD Bits.nil)
 |[]=>by
  constructor
  ·intro h;exact absurd h (mem_nil j)
  ·rintro⟨e,h,_⟩;cases h
 |e::r=>by
  unfold aheadOf;have ih:=mem_aheadOf bs j r;cases hb:Region.binds .any e with
  |true=>
   simp only[mem_or,mem_one,ih,nth_eq,List.mem_cons];constructor
   ·rintro(h|h|⟨e',h1,h2⟩)
    ·exact⟨e,.inl rfl,hb,.inl h⟩
    ·exact⟨e,.inl rfl,hb,.inr h⟩
    ·exact⟨e',.inr h1,h2⟩
   ·rintro⟨e',rfl|h1,h2,h3⟩
    ·exact h3.imp id .inl
    ·exact .inr (.inr ⟨e',h1,h2,h3⟩)
  |false=>
   simp only[ih,List.mem_cons];constructor
   ·rintro⟨e',h1,h2⟩;exact⟨e',.inr h1,h2⟩
   ·rintro⟨e',rfl|h1,h2,h3⟩
    ·rw[hb]at h2;cases h2
    ·exact⟨e',h1,h2,h3⟩
theorem aheads_spec:∀(l:List Oper) (pre:List Bits),∃tl,aheads l pre=pre++tl/\tl.length=l.length/\∀i o,l[i]? =some o->(pre++tl)[pre.length+i]? =some (aheadOf ((pre++tl).take (pre.length+i)) o.after.toList)
 |[],pre=>⟨[],by simp[aheads],rfl,λi o h=>by simp at h⟩
 |o::r,pre=>by
  obtain⟨tl,h1,h2,h3⟩:=aheads_spec r (pre++[aheadOf pre o.after.toList]);refine⟨aheadOf pre o.after.toList::tl,?_,by simp[h2],λi o' hi=> ?_⟩
  ·show aheads r (pre++[aheadOf pre o.after.toList])=_
   rw[h1];simp
  ·cases i with
   |zero=>
    simp only[List.getElem?_cons_zero,Option.some.injEq]at hi;subst hi;simp
   |succ i=>
    have:=h3 i o' (by simpa using hi);simp only[List.length_append,List.length_singleton,List.append_assoc,List.singleton_append]at this;rw[show pre.length+(i+1)=pre.length+1+i by omega];exact this
theorem edgesBack_spec:∀(l:List Oper) (i:Nat),edgesBack i l=true->∀k o,l[k]? =some o->∀e∈o.after,Region.binds .any e=true->e.on<i+k
 |[],_,_,k,o,h=>by simp at h
 |x::r,i,hb,k,o,h=>by
  simp only[edgesBack,Bool.and_eq_true,List.all_eq_true]at hb;cases k with
  |zero=>
   simp only[List.getElem?_cons_zero,Option.some.injEq]at h;subst h;intro e he hbi;have:=hb.1 e (by simpa using he);rw[hbi]at this;have h1:Nat.ble (e.on+1) i=true:=this;have h2:=Nat.le_of_ble_eq_true h1;omega
  |succ k=>
   intro e he hbi;have:=edgesBack_spec r (i+1) hb.2 k o (by simpa using h) e he hbi;omega
theorem tmpPairs_spec {all:List Oper} {ahead:Bits} {ly:List Nat} {y:Oper}:∀(l:List Oper) (j n:Nat),tmpPairs all ahead ly y j n l=true->∀k x,k<n->l[k]? =some x->j+k∈ahead\/tmpPair (looksAt all x) ly x y=true
 |[],_,_,_,k,x,_,hx=>by simp at hx
 |_::_,_,0,_,k,x,hk,_=>by omega
 |z::r,j,n+1,h,k,x,hk,hx=>by
  unfold tmpPairs at h
  have here:(j∈ahead\/tmpPair (looksAt all z) ly z y=true)/\tmpPairs all ahead ly y (j+1) n r=true:=by
   split at h
   ·rename_i hm;exact⟨.inl hm,h⟩
   ·split at h
    ·rename_i hp;exact⟨.inr hp,h⟩
    ·cases h
  cases k with
  |zero=>
   simp only[List.getElem?_cons_zero,Option.some.injEq]at hx;subst hx;exact here.1
  |succ k=>
   have:=tmpPairs_spec r (j+1) n here.2 k x (by omega) (by simpa using hx);rwa[show j+1+k=j+(k+1) by omega]at this
theorem tmpsOk_spec {all:List Oper} {bs:List Bits}:∀(l:List Oper) (i:Nat),tmpsOk all bs i l=true->∀k y,l[k]? =some y->tmpPairs all ((bs[i+k]?).getD Bits.nil) (looksAt all y) y 0 (i+k) all=true
 |[],_,_,k,y,h=>by simp at h
 |x::r,i,h,k,y,hy=>by
  unfold tmpsOk at h;split at h
  ·rename_i h1
   cases k with
   |zero=>
    simp only[List.getElem?_cons_zero,Option.some.injEq]at hy;subst hy;rw[nth_eq]at h1;exact h1
   |succ k=>
    have:=tmpsOk_spec r (i+1) h k y (by simpa using hy);rwa[show i+1+k=i+(k+1) by omega]at this
  ·cases h
theorem ahead_in {all:List Oper} {L:Nat->Bool} (hc:∀i o,all[i]? =some o->L i=true->∀e∈o.after,Region.binds .any e=true->L e.on=true):
  ∀(n i:Nat),i<n->∀o,all[i]? =some o->(∀e∈o.after,Region.binds .any e=true->L e.on=true)->∀j∈(((aheads all [])[i]?).getD Bits.nil),L j=true
 |0,i,hi,_,_,_,_,_=>by omega
 |n+1,i,hi,o,ho,hw,j,hj=>by
  obtain⟨tl,h1,h2,h3⟩:=aheads_spec all [];simp only[List.nil_append,List.length_nil,Nat.zero_add]at h1 h3;have h4:=h3 i o ho;rw[h1,h4,Option.getD_some,mem_aheadOf]at hj;obtain⟨e,he,hb,hj⟩:=hj;have he:e∈o.after:=by simpa using he
  have hon:=hw e he hb;rcases hj with rfl|hj
  ·exact hon
  ·rw[List.getElem?_take]at hj
   split at hj
   ·rename_i hlt
    have hlen:e.on<all.length:=by
     have:=(List.getElem?_eq_some_iff.1 ho).1;omega
    refine ahead_in hc n e.on (by omega) all[e.on] (List.getElem?_eq_getElem hlen) (hc e.on _ (List.getElem?_eq_getElem hlen) hon) j ?_;rw[h1];exact hj
   ·exact absurd hj (mem_nil j)
theorem noMem_iff {d:Option Nat} {l:List Nat}:noMem d l=true↔∀t,d=some t->t∉l:=by
 cases d with
 |none=>simp[noMem]
 |some t=>
  simp only[noMem,Bool.not_eq_true',Option.some.injEq,forall_eq'];rw[<-mem_iff];simp
theorem neDst_iff {a b:Option Nat}:neDst a b=true↔∀t,a=some t->b≠some t:=by
 cases a with
 |none=>simp[neDst]
 |some d=>
  cases b with
  |none=>simp[neDst]
  |some e=>
   simp only[neDst,Bool.not_eq_true',Option.some.injEq,forall_eq',ne_eq];constructor
   ·intro h he
    subst he;rw[Nat.beq_refl]at h;cases h
   ·intro h
    cases hb:Nat.beq d e with
    |false=>rfl
    |true=>exact absurd (Nat.eq_of_beq_eq_true hb).symm h
theorem mem_tmpsOf {t:Nat}:∀{l:List Operand},.tmp t∈l->t∈tmpsOf l
 |x::r,h=>by
  rcases List.mem_cons.1 h with rfl|h
  ·simp[tmpsOf]
  ·have:=mem_tmpsOf h
   cases x<;>simp[tmpsOf,this]
theorem VR.down {ρ ρ':Rho} (s:Sub ρ ρ') {v:CV} {x:Value} (h:VR ρ v x):∀{y:Value},VR ρ' v y->VR ρ v y:=by
 induction h with
 |undef x=>intro y _;exact .undef y
 |bool b=>intro y h;cases h;exact .bool b
 |int k n=>intro y h;cases h;exact .int k n
 |str x=>
  intro y h;obtain⟨b,rfl,e⟩:=h.inv_str;rw[<-e];exact .str b
 |nilptr=>intro y h;cases h;exact .nilptr
 |ptr i o k d h=>
  intro y hy;obtain⟨k2,d2,h1,rfl⟩:=hy.inv_ptr;rw[(s _ _ h).1]at h1;cases h1;exact .ptr i o k d h
 |nilslice n c x c' h hx hn hm=>
  intro y hy;obtain⟨c2,rfl,h1,h2,h3,h4⟩:=hy.inv_nilslice;exact .nilslice n c x c2 h1 h2 h3 h4
 |slice i o n c x k d c' hi h hx hr hn hm=>
  intro y hy;obtain⟨k2,d2,c2,h1,rfl,h2,h3,h4,h5,h6⟩:=hy.inv_slice;rw[(s _ _ hi).1]at h1;cases h1;exact .slice i o n c x k d c2 hi h2 h3 (λe=>by rw[<-(s _ _ hi).2];exact h6 e) h4 h5
 |empty p c hm=>intro y hy;obtain⟨p2,c2,rfl,h2⟩:=hy.inv_empty;exact .empty p2 c2 h2
 |nilmap=>intro y h;cases h;exact .nilmap
 |map i k h=>
  intro y hy;obtain⟨k2,h1,rfl⟩:=hy.inv_map;rw[(s _ _ h).1]at h1;cases h1;exact .map i k h
 |fn f first caps a1 a2 hl1 hl2 hr1 hr2 ih1 ih2=>
  intro y hy;cases hy with
  |fn _ _ _ b1 b2 g1 g2 g3 g4=>exact .fn f first caps b1 b2 g1 g2 (λi hi=>ih1 i hi (g3 i hi)) (λi hi=>ih2 i hi (g4 i hi))
 |yield i l h=>
  intro y hy;cases hy with
  |yield _ l2 h2=>
   rw[(s _ _ h).1]at h2;cases h2;exact .yield i l h
 |nilFunc=>intro y h;cases h;exact .nilFunc
 |iface t v x h ih=>
  intro y hy;obtain⟨z,rfl,h1⟩:=hy.inv_iface;exact .iface t v z (ih h1)
 |nilIface=>intro y h;cases h;exact .nilIface
 |agg cs arr hl hr h1 ih=>
  intro y hy;cases hy with
  |agg _ b g1 g2 g3=>exact .agg cs b g1 (λi hi=>ih i hi (g2 i hi)) h1
 |tup cs arr hl hr ih=>
  intro y hy;cases hy with
  |tup _ b g1 g2=>exact .tup cs b g1 (λi hi=>ih i hi (g2 i hi))
theorem VRs.down {ρ ρ':Rho} (s:Sub ρ ρ') {vs:List CV} {xs ys:List Value} (h:VRs ρ vs xs) (k:VRs ρ' vs ys):VRs ρ vs ys:=⟨k.1,λi hi=>(h.2 i hi).down s (k.2 i hi)⟩
theorem BlkRel.down {ρ ρ':Rho} (s:Sub ρ ρ') {w w':World} {k d r k' d' r':Nat} {b:Blk} (h:BlkRel ρ w k d r b) (h':BlkRel ρ' w' k' d' r' b):BlkRel ρ w' k' d' r' b:=by
 cases b with
 |cells cs ro=>
  obtain⟨arr,ty,fz,h1,h2,h3,h4,h5⟩:=h';obtain⟨_,_,_,_,_,g3,_,_⟩:=h;exact⟨arr,ty,fz,h1,h2,g3.down s h3,h4,h5⟩
 |map es c=>
  obtain⟨h0,ms,h1,h2,h3,h4⟩:=h';obtain⟨_,_,_,g2,g3,_⟩:=h;exact⟨h0,ms,h1,g2.down s h2,g3.down s h3,h4⟩
 |strIter x p=>exact h'
 |loop tm ps asg body st pend=>
  obtain⟨h0,r,h1,h2⟩:=h';obtain⟨_,r0,_,g2⟩:=h;exact⟨h0,r,h1,⟨h2.estate,h2.epend,h2.eps,h2.easg,h2.ebody,λt=>(g2.tmp t).down s (h2.tmp t),h2.ok⟩⟩
def restr (ρ:Rho) (n:Nat):Rho:=⟨λi=>if i<n then ρ i else none,ρ.room⟩
theorem restr_lt {ρ:Rho} {n i:Nat} (h:i<n):restr ρ n i=ρ i:=by show(if i<n then ρ i else none)=ρ i;rw[if_pos h]
theorem restr_ge {ρ:Rho} {n i:Nat} (h:n<=i):restr ρ n i=none:=by show(if i<n then ρ i else none)=none;rw[if_neg (by omega)]
theorem restr_some {ρ:Rho} {n i:Nat} {p:Nat×Nat} (h:restr ρ n i=some p):i<n/\ρ i=some p:=by
 rcases Nat.lt_or_ge i n with hi|hi
 ·rw[restr_lt hi]at h;exact⟨hi,h⟩
 ·rw[restr_ge hi]at h;cases h
theorem restr_sub (ρ:Rho) (n:Nat):Sub (restr ρ n) ρ:=λ_ _ h=>⟨(restr_some h).2,rfl⟩
theorem restr_le (ρ:Rho) {n m:Nat} (h:n<=m):Sub (restr ρ n) (restr ρ m):=λi p hp=>by
 obtain⟨h1,h2⟩:=restr_some hp;exact⟨by rw[restr_lt (by omega)];exact h2,rfl⟩
theorem restr_mono {ρ ρ':Rho} (s:Sub ρ ρ') (n:Nat):Sub (restr ρ n) (restr ρ' n):=λi p hp=>by
 obtain⟨h1,h2⟩:=restr_some hp;exact⟨by rw[restr_lt h1];exact(s i p h2).1,(s i p h2).2⟩
end Go.CM
