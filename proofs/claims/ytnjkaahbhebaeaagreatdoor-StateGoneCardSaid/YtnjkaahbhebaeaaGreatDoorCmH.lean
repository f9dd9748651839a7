/- Comparisons, arithmetic. No condition. -/
import Derived.Test.YtnjkaahbhebaeaaGreatDoorCmD
import Derived.Laws.StructEq
set_option linter.unusedVariables false
set_option linter.unusedSimpArgs false
noncomputable section
namespace Go.CM
set_option maxHeartbeats 2000000
section
variable {P:Program} {E:Env} {o:Oper} {a:Act} {ρ:Rho} {h h':Heap} {w:World} {v:CV} {f:Operand->CV}
theorem str_beq (a b:ByteArray):(a.toList==b.toList)=bytesEq a.data.toList b.data.toList:=by
 rw[ByteArray.toList_eq,ByteArray.toList_eq,bytesEq_eq];rw[Bool.eq_iff_iff];simp
theorem eqT_sound (ok:EnvOk P E) (w:World):∀(d D:Nat) (t:TypeId) (x y:CV) (X Y:Value) (b:Bool),eqT E d t x y=some b->VR ρ x X->VR ρ y Y->d<=D->(Op.equalIn D t X Y).run P w= .ok b w
 |0,_,_,_,_,_,_,_,e,_,_,_=>by cases e
 |d+1,0,_,_,_,_,_,_,_,_,_,hle=>by omega
 |d+1,D+1,t,x,y,X,Y,b,e,hx,hy,hle=>by
  have ih:=eqT_sound ok w d D;simp only[eqT]at e;split at e
  ·rename_i s hs
   obtain⟨i,td,z,k⟩:=ok.row hs;have hkind:=k.kind;unfold eqK at e;split at e
   ·
    rename_i hk;have hd:=kind_bool (hkind.symm.trans hk);have hu:=k.und;rw[hd]at hu;split at e
    ·split at e
     ·cases e
      rw[hx.inv_bool,hy.inv_bool];simp[Op.equalIn,run_underlying hu]
     ·cases e
    ·cases e
   ·rename_i kk hk
    have hd:=kind_int (hkind.symm.trans hk);have hu:=k.und;rw[hd]at hu;split at e
    ·split at e
     ·split at e
      ·rename_i hkk
       cases e;have:=kindEq_iff.1 hkk;subst this;rw[hx.inv_int,hy.inv_int];simp[Op.equalIn,run_underlying hu,intEq_eq]
      ·cases e
     ·cases e
    ·cases e
   ·rename_i hk
    have hd:=kind_string (hkind.symm.trans hk);have hu:=k.und;rw[hd]at hu;split at e
    ·split at e
     ·cases e
      obtain⟨p,rfl,rfl⟩:=hx.inv_str;obtain⟨q,rfl,rfl⟩:=hy.inv_str;rw[run_equalIn_string w D t p q hu,str_beq]
     ·cases e
    ·cases e
   ·rename_i el hk
    have hd:=kind_pointer (hkind.symm.trans hk);have hu:=k.und;rw[hd]at hu;split at e
    ·split at e
     ·rename_i q
      cases e;rw[hx.inv_nilptr];cases q with
      |none=>rw[hy.inv_nilptr];simp[Op.equalIn,run_underlying hu]
      |some q=>
       obtain⟨i,off⟩:=q;obtain⟨k2,d2,_,rfl⟩:=hy.inv_ptr;simp[Op.equalIn,run_underlying hu]
     ·cases e
    ·rename_i q
     split at e
     ·cases e
      obtain⟨i,off⟩:=q;obtain⟨k2,d2,_,rfl⟩:=hx.inv_ptr;rw[hy.inv_nilptr];simp[Op.equalIn,run_underlying hu]
     ·cases e
    ·cases e
   ·rename_i hk
    obtain⟨ms,hd⟩:=kind_iface (hkind.symm.trans hk);have hu:=k.und;rw[hd]at hu;split at e
    ·split at e
     ·cases e
      rw[hx.inv_nilIface,hy.inv_nilIface];simp[Op.equalIn,run_underlying hu]
     ·cases e
      obtain⟨yv,rfl,_⟩:=hy.inv_iface;rw[hx.inv_nilIface];simp[Op.equalIn,run_underlying hu]
     ·cases e
    ·rename_i tx vx
     obtain⟨xv,rfl,hxv⟩:=hx.inv_iface;split at e
     ·cases e
      rw[hy.inv_nilIface];simp[Op.equalIn,run_underlying hu]
     ·rename_i ty vy
      obtain⟨yv,rfl,hyv⟩:=hy.inv_iface;split at e
      ·rename_i htt
       have htt:=Nat.eq_of_beq_eq_true htt;subst htt;split at e
       ·rename_i hc
        cases hty:E.ty tx with
        |none=>rw[hty]at hc;cases hc
        |some s2=>
         rw[hty]at hc;simp only[Option.map_some,Option.some.injEq]at hc;obtain⟨i2,d2,z2,k2⟩:=ok.row hty;have hcm:=((ok.ty tx s2 hty).2 hc).cmp i2 k2.info;have:=ih _ _ _ _ _ _ e hxv hyv (by omega);simp[Op.equalIn,run_underlying hu,typeInfo,k2.info,hcm,this]
       ·cases e
      ·rename_i htt
       cases e;have htt:tx≠ty:=by intro e;subst e;rw[Nat.beq_refl]at htt;cases htt
       simp[Op.equalIn,run_underlying hu,htt]
     ·cases e
    ·cases e
   ·rename_i fs hk
    obtain⟨l,hd,rfl,hbl⟩:=kind_struct (hkind.symm.trans hk);have hu:=k.und;rw[hd]at hu;split at e
    ·rename_i hc
     have hcmp:=(ok.ty t s hs).2 hc;split at e
     ·split at e
      ·rename_i xs _ ys
       obtain⟨ax,rfl,hax,hax1⟩:=hx.inv_agg;obtain⟨ay,rfl,hay,hay1⟩:=hy.inv_agg;have hf:P.fieldsOf t=l:=by unfold Program.fieldsOf;rw[hu]
       rw[run_equalIn_struct w D t ax ay (by rw[hf];exact hu) hcmp.held,hf]
       have key:∀(ls:List Field),(∀f∈ls,f.name≠ "_")->eqFields E (eqT E d) (ls.map λf=>(f.type,f.offset)) xs ys=some b->(Op.eqFields D ax ay ls).run P w= .ok b w:=by
        intro ls
        induction ls with
        |nil=>intro _ e;simp only[List.map_nil,eqFields,Option.some.injEq]at e;subst e;rfl
        |cons fl ls ih2=>
         intro hn e;simp only[List.map_cons,eqFields]at e;split at e
         ·cases e
         ·rename_i s2 hs2
          obtain⟨i2,d2,z2,k2⟩:=ok.row hs2;split at e
          ·cases e
          ·rename_i px hpx
           split at e
           ·cases e
           ·rename_i py hpy
            obtain⟨X1,g1,g2⟩:=part_sound k2 hax hax1 hpx w;obtain⟨Y1,g3,g4⟩:=part_sound k2 hay hay1 hpy w;have hne:=hn fl (by simp);have hrec:=λbb (he:eqT E d fl.type px py=some bb)=>ih fl.type px py X1 Y1 bb he g2 g4 (by omega);simp only[Op.eqFields,hne,ne_eq,not_false_eq_true,if_true,Sem.run_bind,g1,g3,Result.andThen_ok];split at e
            ·rename_i he
             rw[hrec true he];simp only[Result.andThen_ok,Bool.not_true,Bool.false_eq_true,if_false];exact ih2 (λf hf=>hn f (List.mem_cons_of_mem _ hf)) e
            ·rename_i he
             cases e;rw[hrec false he];simp
            ·cases e
       exact key l.toList hbl e
      ·cases e
     ·cases e
    ·cases e
   ·rename_i el hk
    have hd:=kind_slice (hkind.symm.trans hk);have hu:=k.und;rw[hd]at hu;split at e
    ·split at e
     ·rename_i q _ _ _
      cases e;obtain⟨c1,rfl,_⟩:=hx.inv_nilslice;cases q with
      |none=>obtain⟨c2,rfl,_⟩:=hy.inv_nilslice;simp[Op.equalIn,run_underlying hu]
      |some q=>
       obtain⟨i,off⟩:=q;obtain⟨k2,d2,c2,_,rfl,_⟩:=hy.inv_slice;simp[Op.equalIn,run_underlying hu]
     ·cases e
      obtain⟨c1,rfl,_⟩:=hx.inv_nilslice;obtain⟨p2,c2,rfl,_⟩:=hy.inv_empty;simp[Op.equalIn,run_underlying hu]
     ·cases e
    ·rename_i q _ _ _
     split at e
     ·cases e
      obtain⟨i,off⟩:=q;obtain⟨k2,d2,c2,_,rfl,_⟩:=hx.inv_slice;obtain⟨c1,rfl,_⟩:=hy.inv_nilslice;simp[Op.equalIn,run_underlying hu]
     ·cases e
    ·split at e
     ·cases e
      obtain⟨p2,c2,rfl,_⟩:=hx.inv_empty;obtain⟨c1,rfl,_⟩:=hy.inv_nilslice;simp[Op.equalIn,run_underlying hu]
     ·cases e
    ·cases e
   ·rename_i ka kb hk
    have hd:=kind_map (hkind.symm.trans hk);have hu:=k.und;rw[hd]at hu;split at e
    ·split at e
     ·rename_i q
      cases e;rw[hx.inv_nilmap];cases q with
      |none=>rw[hy.inv_nilmap];simp[Op.equalIn,run_underlying hu]
      |some q=>
       obtain⟨k2,_,rfl⟩:=hy.inv_map;simp[Op.equalIn,run_underlying hu]
     ·cases e
    ·rename_i q
     split at e
     ·cases e
      obtain⟨k2,_,rfl⟩:=hx.inv_map;rw[hy.inv_nilmap];simp[Op.equalIn,run_underlying hu]
     ·cases e
    ·cases e
   ·rename_i hk
    obtain⟨p1,p2,p3,hd⟩:=kind_func (hkind.symm.trans hk);have hu:=k.und;rw[hd]at hu;split at e
    ·split at e
     ·cases e
      rw[hx.inv_nilFunc,hy.inv_nilFunc];simp[Op.equalIn,run_underlying hu]
     ·cases e
      obtain⟨a1,a2,rfl,_⟩:=hy.inv_fn;rw[hx.inv_nilFunc];simp[Op.equalIn,run_underlying hu]
     ·cases e
    ·split at e
     ·cases e
      obtain⟨a1,a2,rfl,_⟩:=hx.inv_fn;rw[hy.inv_nilFunc];simp[Op.equalIn,run_underlying hu]
     ·cases e
    ·cases e
   ·cases e
  ·cases e
theorem run_binOp_of {op:BinOp} {t yt:TypeId} {x y:Operand} {X:Value} (ho:o.op= .binOp op t x y yt)
  (hg:(eqGuard op t x y (a.eval x) (a.eval y)).run P w= .ok () w) (hb:(binOp op t (a.eval x) (a.eval y)).run P w= .ok X w):(execOp a.eval o).run P w= .ok (.value X) w:=by
 unfold execOp;simp[ho,hg,hb]
theorem guard_int (op:BinOp) (t:TypeId) (x y:Operand) (k:IntKind) (m:Int) (v:Value) (w:World):(eqGuard op t x y (.int k m) v).run P w= .ok () w:=by
 unfold eqGuard;cases op<;>simp
theorem guard_str (op:BinOp) (t:TypeId) (x y:Operand) (m:ByteArray) (v:Value) (w:World):(eqGuard op t x y (.string m) v).run P w= .ok () w:=by
 unfold eqGuard;cases op<;>simp
theorem bytesLess_eq:∀(a b:List UInt8),bytesLess a b=Op.bytesLess a b
 |[],[]=>rfl
 |[],_::_=>rfl
 |_::_,[]=>rfl
 |a::x,b::y=>by
  unfold bytesLess Op.bytesLess;have ih:=bytesLess_eq x y
  have h1:Nat.blt a.toNat b.toNat=decide (a<b):=by
   rw[Bool.eq_iff_iff,Nat.blt_eq,decide_eq_true_iff,UInt8.lt_iff_toNat_lt]
  have h2:Nat.beq a.toNat b.toNat=(a==b):=by
   rw[Bool.eq_iff_iff,Nat.beq_eq,beq_iff_eq,UInt8.toNat_inj]
  rw[h1,h2];cases hc:decide (a<b)
  ·simp only[Bool.false_or]
   cases hd:(a==b)
   ·simp
   ·simp[ih]
  ·simp
theorem strOp_sound {op:BinOp} {p q:List UInt8} {A B:ByteArray} (hA:A.data.toList=p) (hB:B.data.toList=q) (e:strOp op p q=some v) (w:World):∃X,(Op.stringOp op A B).run P w= .ok X w/\VR ρ v X:=by
 subst hA hB;have he:(A.toList==B.toList)=bytesEq A.data.toList B.data.toList:=str_beq A B;have hl:Op.bytesLess A.toList B.toList=bytesLess A.data.toList B.data.toList:=by rw[ByteArray.toList_eq,ByteArray.toList_eq,bytesLess_eq]
 unfold strOp at e;unfold Op.stringOp;simp only[he,hl];split at e
 ·split at e
  ·rename_i hb
   have hb:=Nat.le_of_ble_eq_true hb;simp only[len_eq]at hb;cases e;have h1:A.size=A.data.toList.length:=by simp
   have h2:B.size=B.data.toList.length:=by simp
   have hgt:¬(((A.size+B.size:Nat):Int)>IntKind.i64.max):=by
    have:IntKind.i64.max=9223372036854775807:=rfl;omega
   refine⟨.string (A++B),by simp only[hgt,if_false];rfl,?_⟩;have:(A++B).data.toList=A.data.toList++B.data.toList:=by simp
   rw[<-this];exact .str _
  ·cases e
 all_goals first
  |(cases e;exact⟨_,rfl,.bool _⟩)
  |cases e
theorem dec_lt (a b:Int):(!intLe b a)=decide (a<b):=by
 rw[intLe_eq,Bool.eq_iff_iff];simp
theorem intBin_sound {op:BinOp} {k:IntKind} {m n:Int} (e:intBin op k m n=some v) (t:TypeId) (hs:op≠ .shl/\op≠ .shr) (w:World):∃X,(binOp op t (.int k m) (.int k n)).run P w= .ok X w/\VR ρ v X:=by
 have hz:∀{n:Int},intEq n 0=false->n≠0:=by intro n h;rw[intEq_eq]at h;simpa using h
 unfold intBin at e;split at e
 ·cases e;exact⟨_,by simp[binOp,Op.intArith],.int _ _⟩
 ·cases e;exact⟨_,by simp[binOp,Op.intArith],.int _ _⟩
 ·cases e;exact⟨_,by simp[binOp,Op.intArith],.int _ _⟩
 ·split at e
  ·cases e
  ·rename_i hn
   cases e;exact⟨_,by simp[binOp,Op.intDiv,hz hn],.int _ _⟩
 ·split at e
  ·cases e
  ·rename_i hn
   cases e;exact⟨_,by simp[binOp,Op.intDiv,hz hn],.int _ _⟩
 ·cases e;exact⟨_,by simp[binOp,Op.intBits],.int _ _⟩
 ·cases e;exact⟨_,by simp[binOp,Op.intBits],.int _ _⟩
 ·cases e;exact⟨_,by simp[binOp,Op.intBits],.int _ _⟩
 ·cases e;exact⟨_,by simp[binOp,Op.intBits],.int _ _⟩
 ·cases e;exact⟨.bool (m==n),by simp only[binOp,ne_eq,not_true_eq_false,if_false,Op.intCmp];rfl,by rw[intEq_eq];exact .bool _⟩
 ·cases e;exact⟨.bool (m != n),by simp only[binOp,ne_eq,not_true_eq_false,if_false,Op.intCmp];rfl,by rw[intEq_eq];exact .bool _⟩
 ·cases e;exact⟨.bool (decide (m<n)),by simp only[binOp,ne_eq,not_true_eq_false,if_false,Op.intCmp];rfl,by rw[dec_lt];exact .bool _⟩
 ·cases e;exact⟨.bool (decide (m<=n)),by simp only[binOp,ne_eq,not_true_eq_false,if_false,Op.intCmp];rfl,by rw[intLe_eq];exact .bool _⟩
 ·cases e;exact⟨.bool (decide (m>n)),by simp only[binOp,ne_eq,not_true_eq_false,if_false,Op.intCmp];rfl,by rw[dec_lt];exact .bool _⟩
 ·cases e;exact⟨.bool (decide (m>=n)),by simp only[binOp,ne_eq,not_true_eq_false,if_false,Op.intCmp];rfl,by rw[intLe_eq];exact .bool _⟩
 ·cases e
theorem intOp_sound {op:BinOp} {k k':IntKind} {m n:Int} (e:intOp op k k' m n=some v) (t:TypeId) (w:World):∃X,(binOp op t (.int k m) (.int k' n)).run P w= .ok X w/\VR ρ v X:=by
 unfold intOp at e;split at e
 ·split at e
  ·rename_i hn
   rw[intLe_eq,decide_eq_true_iff]at hn;cases e;have:¬n<0:=by omega
   exact⟨_,by simp[binOp,Op.shift,this],.int _ _⟩
  ·cases e
 ·split at e
  ·rename_i hn
   rw[intLe_eq,decide_eq_true_iff]at hn;cases e;have:¬n<0:=by omega
   exact⟨_,by simp[binOp,Op.shift,this],.int _ _⟩
  ·cases e
 ·rename_i h1 h2
  split at e
  ·rename_i hk
   have:=kindEq_iff.1 hk;subst this;exact intBin_sound e t ⟨h1,h2⟩ w
  ·cases e
theorem binOp_eql (t:TypeId) (X Y:Value) (b:Bool) (w:World) (hi:∀k m,X≠ .int k m) (hs:∀m,X≠ .string m) (hf:∀k m,X≠ .float k m) (hc:∀k m n,X≠ .complex k m n) (he:(Op.equalIn Op.maxDepth t X Y).run P w= .ok b w):
  (binOp .eql t X Y).run P w= .ok (.bool b) w/\(binOp .neq t X Y).run P w= .ok (.bool !b) w:=by
 have he:(Op.equal t X Y).run P w= .ok b w:=he;constructor
 ·cases X<;>first|exact absurd rfl (hi _ _)|exact absurd rfl (hs _)|exact absurd rfl (hf _ _)|exact absurd rfl (hc _ _ _)|(simp[binOp,he])
 ·cases X<;>first|exact absurd rfl (hi _ _)|exact absurd rfl (hs _)|exact absurd rfl (hf _ _)|exact absurd rfl (hc _ _ _)|(simp[binOp,he])
theorem guard_ok (ok:EnvOk P E) {op:BinOp} (hop:op= .eql\/op= .neq) {t:TypeId} {x y:Operand} {vx vy:CV} {A B:Value} {d:Nat} {b:Bool} (hb:eqT E d t vx vy=some b) (hg:guardEq (isConst x||isConst y) vx vy=true)
  (hx:VR ρ vx A) (hy:VR ρ vy B) (hux:vx≠ .undef) (huy:vy≠ .undef):(eqGuard op t x y A B).run P w= .ok () w:=by
 by_cases hc:(A= .nilIface/\B= .nilIface)
 ·obtain⟨rfl,rfl⟩:=hc
  have hcon:(isConst x||isConst y)=true:=by
   cases hcc:(isConst x||isConst y)with
   |true=>rfl
   |false=>
    rw[hcc]at hg;cases hx with
    |undef=>exact absurd rfl hux
    |nilIface=>cases hy with
     |undef=>exact absurd rfl huy
     |nilIface=>simp[guardEq]at hg
  rcases hop with rfl|rfl<;>unfold eqGuard<;>cases x<;>cases y<;>simp_all [isConst]
 ·by_cases hc2:∃p q,A= .agg p/\B= .agg q
  ·obtain⟨p,q,rfl,rfl⟩:=hc2
   refine run_eqGuard_agg w op t x y p q ?_;cases hx with
   |undef=>exact absurd rfl hux
   |agg cs arr hl hrr h1=>
    cases d with
    |zero=>cases hb
    |succ d=>
     simp only[eqT]at hb;split at hb
     ·rename_i s hs
      unfold eqK at hb;split at hb<;>try (cases hb;done)
      split at hb
      ·rename_i hcm
       exact((ok.ty t s hs).2 hcm).guard
      ·cases hb
     ·cases hb
  ·rcases hop with rfl|rfl<;>unfold eqGuard<;>simp only[Bool.not_true,Bool.false_eq_true,if_false]<;>split
   ·exact absurd ⟨rfl,rfl⟩ hc
   ·exact absurd ⟨_,_,rfl,rfl⟩ hc2
   ·rfl
   ·exact absurd ⟨rfl,rfl⟩ hc
   ·exact absurd ⟨_,_,rfl,rfl⟩ hc2
   ·rfl
theorem eqT_undef {d:Nat} {t:TypeId} {x y:CV} {b:Bool} (e:eqT E d t x y=some b):x≠ .undef/\y≠ .undef:=by
 cases d with
 |zero=>cases e
 |succ d=>
  simp only[eqT]at e;split at e
  ·unfold eqK at e
   constructor
   ·rintro rfl
    split at e<;>first|cases e|(split at e<;>cases e)
   ·rintro rfl
    cases x<;>(split at e<;>first|cases e|(split at e<;>first|cases e|(split at e<;>cases e))|(simp at e))
  ·cases e
theorem op_binop (ok:EnvOk P E) {op:BinOp} {t yt:TypeId} {x y:Operand} {vx vy:CV} (ho:o.op= .binOp op t x y yt) (hr:HR ρ h w) (e:binop E op t (isConst x||isConst y) vx vy=some v)
  (hx:VR ρ vx (a.eval x)) (hy:VR ρ vy (a.eval y)):OpOk P o a ρ h w v h:=by
 unfold binop at e;split at e
 ·split at e
  ·obtain⟨X,h1,h2⟩:=intOp_sound (P:=P) (ρ:=ρ) e t w
   have e1:=hx.inv_int;have e2:=hy.inv_int;exact .val hr (run_binOp_of ho (by rw[e1];exact guard_int ..) (by rw[e1,e2];exact h1)) h2
  ·cases e
 ·split at e
  ·obtain⟨A,e1,hA⟩:=hx.inv_str
   obtain⟨B,e2,hB⟩:=hy.inv_str;obtain⟨X,h1,h2⟩:=strOp_sound (P:=P) (ρ:=ρ) hA hB e w;exact .val hr (run_binOp_of ho (by rw[e1];exact guard_str ..) (by rw[e1,e2];simp only[binOp];exact h1)) h2
  ·cases e
 ·rename_i hni hns
  unfold anyEq at e;split at e
  ·cases e
  ·rename_i hg
   have fin:∀b,eqT E 20 t vx vy=some b->(∀op,op= .eql\/op= .neq->(eqGuard op t x y (a.eval x) (a.eval y)).run P w= .ok () w)/\(binOp .eql t (a.eval x) (a.eval y)).run P w= .ok (.bool b) w/\(binOp .neq t (a.eval x) (a.eval y)).run P w= .ok (.bool !b) w:=by
    intro b hb;obtain⟨hux,huy⟩:=eqT_undef hb;refine⟨λop hop=>guard_ok ok hop hb hg hx hy hux huy,?_⟩;have he:=eqT_sound ok w 20 Op.maxDepth t vx vy _ _ b hb hx hy (by unfold Op.maxDepth;omega);generalize a.eval x=A at hx he;refine binOp_eql t _ _ b w (λk m e=> ?_) (λm e=> ?_) (λk m e=> ?_) (λk m n e=> ?_) he<;>subst e<;>cases hx<;>first|exact hux rfl|exact hni _ _ rfl|exact hns _ rfl
   split at e
   ·cases hb:eqT E 20 t vx vy with
    |none=>rw[hb]at e;cases e
    |some b=>
     rw[hb]at e;simp only[Option.map_some,Option.some.injEq]at e;subst e;obtain⟨g1,g2,g3⟩:=fin b hb;exact .val hr (run_binOp_of ho (g1 _ (.inl rfl)) g2) (.bool _)
   ·cases hb:eqT E 20 t vx vy with
    |none=>rw[hb]at e;cases e
    |some b=>
     rw[hb]at e;simp only[Option.map_some,Option.some.injEq]at e;subst e;obtain⟨g1,g2,g3⟩:=fin b hb;exact .val hr (run_binOp_of ho (g1 _ (.inr rfl)) g3) (.bool _)
   ·cases e
theorem op_unop {op:UnOp} {t:TypeId} {x:Operand} {vx:CV} (ho:o.op= .unOp op t x) (hr:HR ρ h w) (e:unop op vx=some v) (hx:VR ρ vx (a.eval x)):OpOk P o a ρ h w v h:=by
 unfold unop at e;split at e
 ·split at e
  ·cases e;have e1:=hx.inv_int
   exact .val hr (by unfold execOp;simp[ho,e1,Op.unary,Op.intArith]) (.int _ _)
  ·cases e
 ·split at e
  ·cases e;have e1:=hx.inv_bool
   exact .val hr (by unfold execOp;simp[ho,e1,Op.unary]) (.bool _)
  ·cases e
 ·split at e
  ·cases e;have e1:=hx.inv_int
   exact .val hr (by unfold execOp;simp[ho,e1,Op.unary,Op.intBits]) (.int _ _)
  ·cases e
 ·cases e
end
end Go.CM
