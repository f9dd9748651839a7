/- Conversions, maps, assertions. No condition. -/
import Derived.Test.YtnjkaahbhebaeaaGreatDoorCmI
import Derived.MapKept
set_option linter.unusedVariables false
set_option linter.unusedSimpArgs false
noncomputable section
namespace Go.CM
section
variable {P:Program} {E:Env} {o:Oper} {a:Act} {ρ:Rho} {h h':Heap} {w:World} {v:CV} {f:Operand->CV}
theorem zeroV_sound (ok:EnvOk P E) {t:TypeId} (e:zeroV E t=some v) (w:World):∃X,(zeroValue t).run P w= .ok X w/\VR ρ v X:=by
 unfold zeroV at e;split at e
 ·rename_i s hs
  obtain⟨i,d,z,k⟩:=ok.row hs;obtain⟨h1,h2⟩:=consts_sound (ρ:=ρ) k.cells;have hrun:(zeroValue t).run P w= .ok z w:=by simp[zeroValue,typeInfo,k.info,k.zero]
  refine⟨z,hrun,?_⟩;have hza:=k.zagg;rw[<-k.agg]at hza;split at e
  ·rename_i hag
   cases e;rw[hag]at hza;cases z with
   |agg cs=>exact VRs.agg h1 h2
   |_=>cases hza
  ·rename_i hag
   rw[hag]at hza;split at e
   ·rename_i z0 hz0
    cases e;rw[hz0]at h1;have hc:z.cells= #[z]:=by cases z<;>first|rfl|cases hza
    rw[hc]at h1;obtain⟨x,r,hxr,h3,_⟩:=h1.head;have:z=x:=by simpa using(List.cons.inj hxr).1
    rw[this];exact h3
   ·cases e
 ·cases e
theorem bytesOf_sound:∀{cs:List CV} {l:List UInt8} {xs:List Value},bytesOf cs=some l->VRs ρ cs xs->xs=l.map λb=> .int .u8 b.toNat
 |[],l,xs,e,hv=>by cases e;rw[hv.of_nil];rfl
 |c::cs,l,xs,e,hv=>by
  unfold bytesOf at e;split at e
  ·rename_i hc
   exact absurd hc (by simp)
  ·rename_i n r hc
   cases hc;split at e
   ·rename_i hn
    split at e
    ·rename_i l' hl'
     cases e;obtain⟨x,r',rfl,h1,h2⟩:=hv.head;have hx:=h1.inv_int;have ih:=bytesOf_sound hl' h2;have hn:n<256:=by simpa[Nat.blt_eq]using hn
     rw[hx,ih];simp only[List.map_cons]
     congr 2
     have:(UInt8.ofNat n).toNat=n:=by simp[UInt8.toNat_ofNat'];omega
     rw[this];rfl
    ·cases e
   ·cases e
  ·cases e
theorem foldl_push:∀(l:List UInt8) (s:ByteArray),l.foldl (λb a=>b.push a) s=⟨⟨s.data.toList++l⟩⟩
 |[],s=>by obtain⟨⟨s⟩⟩:=s;simp
 |b::l,s=>by
  rw[List.foldl_cons,foldl_push l];simp
theorem op_convert (ok:EnvOk P E) {s t:TypeId} {x:Operand} {vx:CV} (ho:o.op= .convert s t x) (hr:HR ρ h w) (e:oConvert E h (E.ty s) (E.ty t) vx=some (v,h')) (hx:VR ρ vx (a.eval x)):OpOk P o a ρ h w v h':=by
 unfold oConvert at e;split at e
 ·rename_i sa hsa
  obtain⟨ai,ad,az,ak⟩:=ok.row hsa;split at e
  ·rename_i sb hsb
   obtain⟨bi,bd,bz,bk⟩:=ok.row hsb;split at e
   ·rename_i k hk
    have hd:=kind_int (bk.kind.symm.trans hk);subst hd;split at e
    ·cases e
     have hxe:=hx.inv_int;refine .val hr ?_ (.int _ _);unfold execOp;cases ad<;>simp[ho,hxe,convert,run_underlying ak.und,run_underlying bk.und,Conv.intToInt]
    ·cases e
   ·rename_i hk
    have hd:=kind_string (bk.kind.symm.trans hk);subst hd;split at e
    ·cases e
     obtain⟨B,hxe,rfl⟩:=hx.inv_str;refine .val (x:= .string B) hr ?_ (.str _);unfold execOp;cases ad<;>simp[ho,hxe,convert,run_underlying ak.und,run_underlying bk.und]
    ·rename_i p n c ex
     split at e
     ·rename_i el hka
      have hd:=kind_slice (ak.kind.symm.trans hka);subst hd;split at e
      ·rename_i hel
       unfold kindAt at hel;cases hes:E.ty el with
       |none=>rw[hes]at hel;cases hel
       |some es=>
        rw[hes]at hel;simp only[Option.some.injEq]at hel;obtain⟨ei,ed,ez,ek⟩:=ok.row hes;have hd:=kind_int (ek.kind.symm.trans hel);subst hd;split at e
        ·cases e
         obtain⟨c',hxe,_⟩:=hx.inv_nilslice;refine .val (x:= .string .empty) hr ?_ (.str .empty);unfold execOp;simp[ho,hxe,convert,run_underlying ak.und,run_underlying bk.und,run_underlying ek.und,Conv.bytesToString]
        ·rename_i p
         obtain⟨i,off⟩:=p;split at e
         ·rename_i cs ro hb
          obtain⟨e1,e2⟩:=withH_some e;simp only at e1 e2;subst e2;rw[cut_eq]at e1;by_cases hle:off+n<=cs.length
          ·rw[if_pos hle]at e1
           simp only[Option.bind_some,Option.map_eq_some_iff]at e1;obtain⟨l,hl,rfl⟩:=e1;obtain⟨k,d,c',hi,hxe,_⟩:=hx.inv_slice;obtain⟨k',d',hi',hrel⟩:=hr.blk i _ hb;rw[hi]at hi';cases hi';obtain⟨arr,ty,fz,g1,g2,g3,g4,g5⟩:=hrel;have hxs:=bytesOf_sound hl ((g3.drop off).take n)
           have hlen:l.length=n:=by
            have:=congrArg List.length hxs;simp at this;omega
           have hf:∀j,j<n->w.cell? ((mk k (d+off)).add j)=some ((l.map λb=>Value.int .u8 b.toNat).getD j undef):=by
            intro j hj;have hjl:j<l.length:=by omega
            have e3:(l.map λb=>Value.int .u8 b.toNat)[j]? =some ((l.map λb=>Value.int .u8 b.toNat).getD j undef):=by simp[List.getD_eq_getElem?_getD,hjl]
            rw[<-e3,<-hxs,mk_add];simp only[World.cell?,mk,g1,Option.isSome_none,Bool.false_eq_true,if_false];rw[List.getElem?_take (l:=List.drop off _),if_pos hj,List.getElem?_drop,List.getElem?_take,if_pos (by omega),List.getElem?_drop,<-Array.getElem?_toList]
            congr 1;omega
           have hl2:=run_loadCells (P:=P) w (mk k (d+off)) n _ hf
           have e4:((List.range n).map λj=>(l.map λb=>Value.int .u8 b.toNat).getD j undef)=l.map λb=>Value.int .u8 b.toNat:=by
            apply List.ext_getElem
            ·simp[hlen]
            ·intro j h1 h2
             have:j<l.length:=by simpa using h2
             simp[List.getD_eq_getElem?_getD,this]
           rw[e4]at hl2;refine .val (x:= .string ⟨⟨l⟩⟩) hr ?_ (.str ⟨⟨l⟩⟩);unfold execOp;simp[ho,hxe,convert,run_underlying ak.und,run_underlying bk.und,run_underlying ek.und,Conv.bytesToString,hl2];rw[foldl_push];simp
          ·rw[if_neg hle]at e1;cases e1
         ·cases e
      ·cases e
     ·cases e
    ·cases e
   ·cases e
  ·cases e
 ·cases e
theorem run_getMap {k:Nat} {ms:Array MapEntry} {clock:Nat} (hg:w.heap[k]? =some (.map ms clock)):(getObj k).run P w= .ok (.map ms clock) w:=by
 simp[getObj,Sem.run,hg]
theorem run_setMap {k:Nat} {ms:Array MapEntry} {clock:Nat} (hg:w.heap[k]? =some (.map ms clock)) (o:Obj):(setObj k o).run P w= .ok () {w with heap:=w.heap.setIfInBounds k o}:=by
 simp[setObj,Sem.run,hg]
theorem keyKind_desc {s:TyS} {t:TypeId} {i:TypeInfo} {d:TypeDesc} {z:Value} (k:TyOk P t s i d z) (hk:keyKind s.kind=true):d= .string\/(∃k,d= .int k)\/d= .bool:=by
 have hkk:=k.kind;unfold keyKind at hk;split at hk
 ·rename_i e;exact .inl (kind_string (hkk.symm.trans e))
 ·rename_i e;exact .inr (.inl ⟨_,kind_int (hkk.symm.trans e)⟩)
 ·rename_i e;exact .inr (.inr (kind_bool (hkk.symm.trans e)))
 ·cases hk
theorem run_checkKey {kt:TypeId} {d:TypeDesc} (hu:P.underlying kt=some d) (hd:d= .string\/(∃k,d= .int k)\/d= .bool) (b:Bool) (n:Nat) (x:Value) (w:World):(Instr.checkKey b (n+1) kt x).run P w= .ok () w:=by
 rcases hd with rfl|⟨k,rfl⟩|rfl<;>simp[Instr.checkKey,run_underlying hu]
theorem eq_now (ok:EnvOk P E) {kt:TypeId} {s:TyS} {i:TypeInfo} {d:TypeDesc} {z:Value} (hs:E.ty kt=some s) (tk:TyOk P kt s i d z) (hd:d= .string\/(∃k,d= .int k)\/d= .bool) {n:Nat} {x y:CV} {X Y:Value} {b:Bool}
  (e:eqT E n kt x y=some b) (hx:VR ρ x X) (hy:VR ρ y Y):Instr.sameNow d X Y=some b:=by
 cases n with
 |zero=>cases e
 |succ n=>
  simp only[eqT,hs]at e;unfold eqK at e;rw[tk.kind]at e;rcases hd with rfl|⟨k,rfl⟩|rfl
  ·simp only[kindOf]at e
   split at e
   ·split at e
    ·cases e
     obtain⟨A,rfl,rfl⟩:=hx.inv_str;obtain⟨B,rfl,rfl⟩:=hy.inv_str;simp only[Instr.sameNow,Option.some.injEq];rw[<-str_beq,beq_toListBytes]
    ·cases e
   ·cases e
  ·simp only[kindOf]at e
   split at e
   ·split at e
    ·split at e
     ·rename_i hkk
      cases e;have:=kindEq_iff.1 hkk;subst this;rw[hx.inv_int,hy.inv_int];simp[Instr.sameNow,intEq_eq]
     ·cases e
    ·cases e
   ·cases e
  ·simp only[kindOf]at e
   split at e
   ·split at e
    ·cases e
     rw[hx.inv_bool,hy.inv_bool];simp[Instr.sameNow]
    ·cases e
   ·cases e
def MapR (ρ:Rho) (es:List ME) (ms:List MapEntry):Prop:=VRs ρ (es.map (·.key)) (ms.map (·.key))/\VRs ρ (es.map (·.val)) (ms.map (·.val))/\es.map (·.born)=ms.map (·.born)
theorem MapR.head {e:ME} {es:List ME} {ms:List MapEntry} (r:MapR ρ (e::es) ms):∃m l,ms=m::l/\VR ρ e.key m.key/\VR ρ e.val m.val/\e.born=m.born/\MapR ρ es l:=by
 obtain⟨h1,h2,h3⟩:=r;cases ms with
 |nil=>have:=h1.1;simp at this
 |cons m l=>
  simp only[List.map_cons]at h1 h2 h3;obtain⟨_,_,e1,g1,g2⟩:=h1.head;cases e1;obtain⟨_,_,e2,g3,g4⟩:=h2.head;cases e2;exact⟨m,l,rfl,g1,g3,(List.cons.inj h3).1,g2,g4,(List.cons.inj h3).2⟩
theorem MapR.of_nil {ms:List MapEntry} (r:MapR ρ [] ms):ms=[]:=by
 have:=r.1.1;simpa using this
theorem MapR.cons {e:ME} {es:List ME} {m:MapEntry} {l:List MapEntry} (h1:VR ρ e.key m.key) (h2:VR ρ e.val m.val) (h3:e.born=m.born) (r:MapR ρ es l):MapR ρ (e::es) (m::l):=
 ⟨VRs.cons h1 r.1,VRs.cons h2 r.2.1,by simp[h3,r.2.2]⟩
theorem eq_bits (ok:EnvOk P E) {kt:TypeId} {s:TyS} {i:TypeInfo} {d:TypeDesc} {z:Value} (hs:E.ty kt=some s) (tk:TyOk P kt s i d z) (hd:d= .string\/(∃k,d= .int k)\/d= .bool) {n:Nat} {x y:CV} {X Y:Value}
  (e:eqT E n kt x y=some true) (hx:VR ρ x X) (hy:VR ρ y Y):Instr.sameBits 10000 Y X=true:=by
 have hn:=eq_now ok hs tk hd e hx hy;cases n with
 |zero=>cases e
 |succ n=>
  simp only[eqT,hs]at e;unfold eqK at e;rw[tk.kind]at e;rcases hd with rfl|⟨k,rfl⟩|rfl
  ·simp only[kindOf]at e
   split at e
   ·split at e
    ·obtain⟨A,rfl,_⟩:=hx.inv_str
     obtain⟨B,rfl,_⟩:=hy.inv_str;simp only[Instr.sameNow,Option.some.injEq]at hn;have:=(MapKept.bytes_beq A B).1 hn;subst this;simpa[Instr.sameBits]using hn
    ·cases e
   ·cases e
  ·simp only[kindOf]at e
   split at e
   ·split at e
    ·split at e
     ·rename_i hkk
      have:=kindEq_iff.1 hkk;subst this;rw[hx.inv_int,hy.inv_int]at hn ⊢;simp[Instr.sameNow]at hn;simp[Instr.sameBits,hn]
     ·cases e
    ·cases e
   ·cases e
  ·simp only[kindOf]at e
   split at e
   ·split at e
    ·rw[hx.inv_bool,hy.inv_bool]at hn ⊢
     simp[Instr.sameNow]at hn;simp[Instr.sameBits,hn]
    ·cases e
   ·cases e
theorem flat_bits {n:Nat} {v:CV} {X Y:Value} (hv:v.flat=true) (hx:VR ρ v X) (hy:VR ρ v Y):Instr.sameBits n X Y=true:=by
 cases v with
 |bool b=>rw[hx.inv_bool,hy.inv_bool];simp[Instr.sameBits]
 |int k m=>rw[hx.inv_int,hy.inv_int];simp[Instr.sameBits]
 |str s=>
  obtain⟨A,rfl,h1⟩:=hx.inv_str;obtain⟨B,rfl,h2⟩:=hy.inv_str
  have:A=B:=by
   obtain⟨⟨a⟩⟩:=A;obtain⟨⟨b⟩⟩:=B;have:a=b:=h1.trans h2.symm;rw[this]
  subst this;simpa[Instr.sameBits]using(MapKept.bytes_beq A A).2 rfl
 |_=>cases hv
theorem flats_bits {n:Nat}:∀(cs:List CV) (xs ys:List Value),cs.all CV.flat=true->VRs ρ cs xs->VRs ρ cs ys->((xs.zip ys).all λ(x,y)=>Instr.sameBits n x y)=true
 |[],xs,ys,_,hx,hy=>by rw[hx.of_nil];rfl
 |c::cs,xs,ys,hc,hx,hy=>by
  obtain⟨x,r,rfl,h1,h2⟩:=hx.head;obtain⟨y,q,rfl,h3,h4⟩:=hy.head;simp only[List.all_cons,Bool.and_eq_true]at hc;simp only[List.zip_cons_cons,List.all_cons,Bool.and_eq_true];exact⟨flat_bits hc.1 h1 h3,flats_bits cs r q hc.2 h2 h4⟩
theorem same_bits {k y:CV} {K Y:Value} {cs:List CV} (hk:k= .agg cs) (e:keySame k y=true) (hx:VR ρ k K) (hy:VR ρ y Y):Instr.sameBits 10000 Y K=true:=by
 subst hk;unfold keySame at e;simp only at e;split at e
 ·rename_i hf
  have:=cvEq_sound _ _ e;subst this;obtain⟨ax,rfl,h1,_⟩:=hx.inv_agg;obtain⟨ay,rfl,h2,_⟩:=hy.inv_agg;have hz:=flats_bits (n:=9999) cs ay.toList ax.toList hf h2 h1
  have hlen:ay.size=ax.size:=by
   have e1:=h1.1;have e2:=h2.1;simp only[Array.length_toList]at e1 e2;omega
  show(ay.size==ax.size&&(ay.toList.zip ax.toList).all λ(x,y)=>Instr.sameBits 9999 x y)=true;rw[hz,hlen];simp
 ·cases e
def FoundAt (P:Program) (ρ:Rho) (kt:TypeId) (K:Value) (es:List ME) (ms:List MapEntry) (w:World):Option (Nat×CV)->Prop
 |none=>(Instr.findKey kt K ms).run P w= .ok none w
 |some p=>∃e m,(Instr.findKey kt K ms).run P w= .ok (some (p.1,m.val)) w/\es[p.1]? =some e/\ms[p.1]? =some m/\VR ρ p.2 m.val/\e.born=m.born/\Instr.sameBits 10000 m.key K=true
theorem find_now (ok:EnvOk P E) {kt:TypeId} {s:TyS} {i:TypeInfo} {d:TypeDesc} {z:Value} (hs:E.ty kt=some s) (tk:TyOk P kt s i d z) (hd:d= .string\/(∃k,d= .int k)\/d= .bool) {k:CV} {K:Value} (hk:VR ρ k K):
  ∀(es:List ME) (ms:List MapEntry) (n:Nat) (r:Option (Nat×CV)),findKey E kt k es n=some r->MapR ρ es ms->
  match r with
  |none=>Instr.findNow d K ms n=some none
  |some p=>∃e m,Instr.findNow d K ms n=some (some (p.1,m.val))/\n<=p.1/\es[p.1-n]? =some e/\ms[p.1-n]? =some m/\VR ρ p.2 m.val/\e.born=m.born/\Instr.sameBits 10000 m.key K=true
 |[],ms,n,r,e,hr=>by
  simp only[findKey,Option.some.injEq]at e;subst e;rw[hr.of_nil];rfl
 |x::es,ms,n,r,e,hr=>by
  obtain⟨m,l,rfl,g1,g2,g3,g4⟩:=hr.head;simp only[findKey]at e;split at e
  ·rename_i he
   split at e
   ·cases e
    have:=eq_now ok hs tk hd he hk g1;exact⟨x,m,by simp[Instr.findNow,this],Nat.le_refl _,by simp,by simp,g2,g3,eq_bits ok hs tk hd he hk g1⟩
   ·cases e
  ·rename_i he
   have h1:=eq_now ok hs tk hd he hk g1;have ih:=find_now ok hs tk hd hk es l (n+1) r e g4;cases r with
   |none=>simp only at ih ⊢;simp[Instr.findNow,h1,ih]
   |some p=>
    obtain⟨e',m',i1,i2,i3,i4,i5⟩:=ih;have hp:p.1-n=(p.1-(n+1))+1:=by omega
    exact⟨e',m',by simp[Instr.findNow,h1,i1],by omega,by rw[hp];simpa using i3,by rw[hp];simpa using i4,i5⟩
  ·cases e
theorem find_ask (ok:EnvOk P E) (w:World) {kt:TypeId} {cs:List CV} {K:Value} (hk:VR ρ (.agg cs) K):
  ∀(es:List ME) (ms:List MapEntry) (n:Nat) (r:Option (Nat×CV)),findKey E kt (.agg cs) es n=some r->MapR ρ es ms->
  match r with
  |none=>(Instr.findAsking kt K ms n).run P w= .ok none w
  |some p=>∃e m,(Instr.findAsking kt K ms n).run P w= .ok (some (p.1,m.val)) w/\n<=p.1/\es[p.1-n]? =some e/\ms[p.1-n]? =some m/\VR ρ p.2 m.val/\e.born=m.born/\Instr.sameBits 10000 m.key K=true
 |[],ms,n,r,e,hr=>by
  simp only[findKey,Option.some.injEq]at e;subst e;rw[hr.of_nil];simp[Instr.findAsking]
 |x::es,ms,n,r,e,hr=>by
  obtain⟨m,l,rfl,g1,g2,g3,g4⟩:=hr.head;simp only[findKey]at e;split at e
  ·rename_i he
   split at e
   ·rename_i hsame
    cases e;have:=eqT_sound ok w 20 Op.maxDepth kt _ _ _ _ _ he hk g1 (by unfold Op.maxDepth;omega);exact⟨x,m,by simp[Instr.findAsking,Op.equal,this],Nat.le_refl _,by simp,by simp,g2,g3,same_bits rfl hsame hk g1⟩
   ·cases e
  ·rename_i he
   have h1:=eqT_sound ok w 20 Op.maxDepth kt _ _ _ _ _ he hk g1 (by unfold Op.maxDepth;omega);have ih:=find_ask ok w hk es l (n+1) r e g4;cases r with
   |none=>simp only at ih ⊢;simp[Instr.findAsking,Op.equal,h1,ih]
   |some p=>
    obtain⟨e',m',i1,i2,i3,i4,i5⟩:=ih;have hp:p.1-n=(p.1-(n+1))+1:=by omega
    exact⟨e',m',by simp[Instr.findAsking,Op.equal,h1,i1],by omega,by rw[hp];simpa using i3,by rw[hp];simpa using i4,i5⟩
  ·cases e
theorem check_fields (ok:EnvOk P E) (w:World) (b:Bool) (m n:Nat) (hmn:m=n+1) {cs:List CV} {arr:Array Value} (h:VRs ρ cs arr.toList) (h1:∀c∈cs,c.one=true):
  ∀(fs:List Field),(∀f∈fs,f.name≠ "_")->keyFs E cs (fs.map λf=>(f.type,f.offset))=true->
   (forIn fs PUnit.unit λf __s=>if f.name≠ "_" then do
     let x <-Go.part f.type arr f.offset
     Instr.checkKey b m f.type x
     pure (ForInStep.yield PUnit.unit)
    else pure (ForInStep.yield PUnit.unit):Sem PUnit).run P w= .ok PUnit.unit w
 |[],_,_=>by simp
 |f::fs,hn,hk=>by
  simp only[List.map_cons,keyFs]at hk;split at hk
  ·rename_i s hs
   obtain⟨i,d,z,k⟩:=ok.row hs;split at hk
   ·rename_i hkk
    split at hk
    ·rename_i v hv
     obtain⟨X,g1,g2⟩:=part_sound k h h1 hv w;have ih:=check_fields ok w b m n hmn h h1 fs (λf hf=>hn f (List.mem_cons_of_mem _ hf)) hk;have hne:=hn f (by simp);have hc:(Instr.checkKey b m f.type X).run P w= .ok () w:=by rw[hmn];exact run_checkKey k.und (keyKind_desc k hkk) b n X w
     simp only[List.forIn_cons,Sem.run_bind,hne,ne_eq,not_false_eq_true,if_true,g1,Result.andThen_ok,hc,Sem.run_pure];exact ih
    ·cases hk
   ·cases hk
  ·cases hk
theorem check_struct (ok:EnvOk P E) (w:World) (b:Bool) (m n:Nat) (hmn:m=n+1) {kt:TypeId} {l:Array Field} (hu:P.underlying kt=some (.struct l)) {cs:List CV} {arr:Array Value} (h:VRs ρ cs arr.toList) (h1:∀c∈cs,c.one=true) (hbl:∀f∈l.toList,f.name≠ "_") (hk:keyFs E cs (l.toList.map λf=>(f.type,f.offset))=true):
  (Instr.checkKey b (m+1) kt (.agg arr)).run P w= .ok () w:=by
 have:=check_fields ok w b m n hmn h h1 l.toList hbl hk;simp only[Instr.checkKey,Sem.run_bind,run_underlying hu,Result.andThen_ok];rw[<-Array.forIn_toList,this];simp
theorem key_check (ok:EnvOk P E) {kt:TypeId} {k:CV} {K:Value} (e:keyOk E kt k=true) (hk:VR ρ k K) (b:Bool) (w:World):(Instr.checkKey b 10000 kt K).run P w= .ok () w:=by
 unfold keyOk kindAt at e;cases hs:E.ty kt with
 |none=>rw[hs]at e;cases e
 |some s=>
  rw[hs]at e;obtain⟨i,d,z,tk⟩:=ok.row hs;simp only at e;split at e
  ·rename_i fs hfs
   obtain⟨l,rfl,rfl,hbl⟩:=kind_struct (tk.kind.symm.trans (Option.some.inj hfs));split at e
   ·obtain⟨ax,rfl,hax,hax1⟩:=hk.inv_agg
    exact check_struct ok w b 9999 9998 rfl tk.und hax hax1 hbl e
   ·cases e
  ·rename_i k2 hne hk2
   have hkk:=Option.some.inj hk2;rw[<-hkk]at e;exact run_checkKey tk.und (keyKind_desc tk e) b 9999 K w
  ·cases e
theorem find_run (ok:EnvOk P E) {kt:TypeId} {k:CV} {K:Value} (e:keyOk E kt k=true) (hk:VR ρ k K) {es:List ME} {ms:List MapEntry} {r:Option (Nat×CV)} (hf:findKey E kt k es 0=some r) (hm:MapR ρ es ms) (w:World):FoundAt P ρ kt K es ms w r:=by
 unfold keyOk kindAt at e;cases hs:E.ty kt with
 |none=>rw[hs]at e;cases e
 |some s=>
  rw[hs]at e;obtain⟨i,d,z,tk⟩:=ok.row hs;simp only at e;split at e
  ·rename_i fs hfs
   obtain⟨l,rfl,rfl,hbl⟩:=kind_struct (tk.kind.symm.trans (Option.some.inj hfs));split at e
   ·rename_i cs
    have h2:=find_ask ok w hk es ms 0 r hf hm
    have hfk:(Instr.findKey kt K ms).run P w=(Instr.findAsking kt K ms).run P w:=by
     cases ms with
     |nil=>simp[Instr.findKey,run_underlying tk.und,Instr.findNow,Instr.findAsking]
     |cons m ms=>simp[Instr.findKey,run_underlying tk.und,Instr.findNow,Instr.sameNow]
    cases r with
    |none=>exact hfk.trans h2
    |some p=>
     obtain⟨e0,m,f1,f2,f3,f4,f5⟩:=h2;exact⟨e0,m,hfk.trans f1,f3,f4,f5⟩
   ·cases e
  ·rename_i k2 hne hk2
   have hkk:=Option.some.inj hk2;rw[<-hkk]at e;have h2:=find_now ok hs tk (keyKind_desc tk e) hk es ms 0 r hf hm;cases r with
   |none=>
    have h2:Instr.findNow d K ms 0=some none:=h2;show(Instr.findKey kt K ms).run P w= .ok none w;simp[Instr.findKey,run_underlying tk.und,h2]
   |some p=>
    obtain⟨e0,m,f1,f2,f3,f4,f5⟩:=h2;exact⟨e0,m,by simp[Instr.findKey,run_underlying tk.und,f1],f3,f4,f5⟩
  ·cases e
theorem mapEs_sound (hr:HR ρ h w) {vx:CV} {es:List ME} (e:mapEs h vx=some es) {x:Value} (hx:VR ρ vx x):∃ms:Array MapEntry,MapR ρ es ms.toList/\((x= .map none/\ms= #[])\/∃k clock,x= .map (some k)/\w.heap[k]? =some (.map ms clock)):=by
 unfold mapEs at e;split at e
 ·cases e
  exact⟨#[],⟨VRs.nil _,VRs.nil _,rfl⟩,.inl ⟨hx.inv_nilmap,rfl⟩⟩
 ·rename_i r
  split at e
  ·rename_i es' clock hb
   cases e;obtain⟨k,hi,hxe⟩:=hx.inv_map;obtain⟨k',d',hi',hd0,ms,g1,g2,g3,g4⟩:=hr.blk r _ hb;rw[hi]at hi';cases hi';exact⟨ms,⟨g2,g3,g4⟩,.inr ⟨k,clock,hxe,g1⟩⟩
  ·cases e
 ·cases e
theorem op_lookup (ok:EnvOk P E) {t:TypeId} {x y:Operand} {cok:Bool} {vx vy:CV} (ho:o.op= .lookup t x y cok) (hr:HR ρ h w) (e:oLookup E (E.ty t) vx vy cok h=some v) (hx:VR ρ vx (a.eval x)) (hy:VR ρ vy (a.eval y)):OpOk P o a ρ h w v h:=by
 unfold oLookup at e;split at e
 ·rename_i s hs
  obtain⟨i,d,z,k⟩:=ok.row hs;split at e
  ·rename_i kt et hk
   have hd:=kind_map (k.kind.symm.trans hk);subst hd;split at e
   ·rename_i hko
    have hck:=λb=>key_check (P:=P) ok hko hy b w;split at e
    ·rename_i es hes
     obtain⟨ms,hmr,hor⟩:=mapEs_sound hr hes hx;unfold found at e;split at e
     ·rename_i p hf
      cases e;obtain⟨_,m,hrun,_,_,f4,_,_⟩:=find_run ok hko hy hf hmr w;refine .val (x:=if cok then .tuple #[m.val,.bool true]else m.val) hr ?_ ?_
      ·unfold execOp
       rcases hor with⟨q1,q2⟩|⟨k2,clock,q1,q2⟩
       ·subst q2
        simp[ho,Instr.lookup,run_underlying k.und,q1,hck,hrun]
       ·simp[ho,Instr.lookup,run_underlying k.und,q1,run_getMap (P:=P) q2,hck,hrun]
      ·unfold okTup
       cases cok
       ·exact f4
       ·exact VRs.tup (VRs.cons f4 (VRs.cons (.bool _) (VRs.nil _)))
     ·rename_i hf
      simp only[Option.map_eq_some_iff]at e;obtain⟨z0,hz0,rfl⟩:=e;obtain⟨Z,z1,z2⟩:=zeroV_sound (ρ:=ρ) ok hz0 w;have hrun:(Instr.findKey kt (a.eval y) ms.toList).run P w= .ok none w:=find_run ok hko hy hf hmr w;refine .val (x:=if cok then .tuple #[Z,.bool false]else Z) hr ?_ ?_
      ·unfold execOp
       rcases hor with⟨q1,q2⟩|⟨k2,clock,q1,q2⟩
       ·subst q2
        simp[ho,Instr.lookup,run_underlying k.und,q1,hck,hrun,z1]
       ·simp[ho,Instr.lookup,run_underlying k.und,q1,run_getMap (P:=P) q2,hck,hrun,z1]
      ·unfold okTup
       cases cok
       ·exact z2
       ·exact VRs.tup (VRs.cons z2 (VRs.cons (.bool _) (VRs.nil _)))
     ·cases e
    ·cases e
   ·cases e
  ·cases e
 ·cases e
theorem op_assert (ok:EnvOk P E) {t ta:TypeId} {x:Operand} {cok:Bool} {vx:CV} (ho:o.op= .typeAssert x t ta cok) (hr:HR ρ h w) (e:oAssert E (E.ty ta) vx ta cok h=some (v,h')) (hx:VR ρ vx (a.eval x)):OpOk P o a ρ h w v h':=by
 unfold oAssert at e;split at e
 ·rename_i s hs
  obtain⟨i,d,z,k⟩:=ok.row hs;split at e
  ·cases e
  ·rename_i hk
   have hne:∀ms,d≠ .interface ms:=by
    intro ms e;subst e;exact hk k.kind
   have fails:∀{z0:CV},zeroV E ta=some z0->∃Z,(zeroValue ta).run P w= .ok Z w/\VR ρ (okTup true z0 false) (.tuple #[Z,.bool false]):=by
    intro z0 hz0;obtain⟨Z,z1,z2⟩:=zeroV_sound (ρ:=ρ) ok hz0 w;exact⟨Z,z1,VRs.tup (VRs.cons z2 (VRs.cons (.bool _) (VRs.nil _)))⟩
   split at e
   ·rename_i t2 v2
    obtain⟨y,hxe,hv⟩:=hx.inv_iface;split at e
    ·rename_i htt
     have htt:=Nat.eq_of_beq_eq_true htt;cases e;refine .val (x:=if cok then .tuple #[y,.bool true]else y) hr ?_ ?_
     ·unfold execOp
      simp only[ho,Instr.typeAssert,Sem.run_bind,run_underlying k.und,Result.andThen_ok,hxe];cases d<;>first|exact absurd rfl (hne _)|(simp[htt])
     ·unfold okTup
      cases cok
      ·exact hv
      ·exact VRs.tup (VRs.cons hv (VRs.cons (.bool _) (VRs.nil _)))
    ·rename_i htt
     have htt:t2≠ta:=by intro e;subst e;rw[Nat.beq_refl]at htt;cases htt
     split at e
     ·obtain⟨e1,e2⟩:=withH_some e
      simp only at e1 e2;subst e2;simp only[Option.map_eq_some_iff]at e1;obtain⟨z0,hz0,rfl⟩:=e1;obtain⟨Z,z1,z2⟩:=fails hz0;refine .val hr ?_ z2;unfold execOp;simp only[ho,Instr.typeAssert,Sem.run_bind,run_underlying k.und,Result.andThen_ok,hxe];cases d<;>first|exact absurd rfl (hne _)|(simp[htt,z1])
     ·cases e
   ·have hxe:=hx.inv_nilIface
    split at e
    ·obtain⟨e1,e2⟩:=withH_some e
     simp only at e1 e2;subst e2;simp only[Option.map_eq_some_iff]at e1;obtain⟨z0,hz0,rfl⟩:=e1;obtain⟨Z,z1,z2⟩:=fails hz0;refine .val hr ?_ z2;unfold execOp;simp only[ho,Instr.typeAssert,Sem.run_bind,run_underlying k.und,Result.andThen_ok,hxe];cases d<;>first|exact absurd rfl (hne _)|(simp[z1])
    ·cases e
   ·cases e
 ·cases e
end
end Go.CM

noncomputable section
namespace Go.CM
section
variable {P:Program} {E:Env} {o:Oper} {a:Act} {ρ:Rho} {h h':Heap} {w:World} {v:CV}
theorem run_keyStays {X Y:Value} (hb:Instr.sameBits 10000 Y X=true) (w:World):(Instr.keyThatStays Y X).run P w= .ok X w:=by
 simp[Instr.keyThatStays,hb]
theorem MapR.modify {f:ME->ME} {g:MapEntry->MapEntry} (hf:∀e m,VR ρ e.key m.key->VR ρ e.val m.val->e.born=m.born->VR ρ (f e).key (g m).key/\VR ρ (f e).val (g m).val/\(f e).born=(g m).born):
  ∀(es:List ME) (ms:List MapEntry) (i:Nat),MapR ρ es ms->MapR ρ (setME es f i) (ms.modify i g)
 |[],ms,i,r=>by rw[r.of_nil];cases i<;>exact⟨VRs.nil _,VRs.nil _,rfl⟩
 |e::es,ms,0,r=>by
  obtain⟨m,l,rfl,g1,g2,g3,g4⟩:=r.head;obtain⟨f1,f2,f3⟩:=hf e m g1 g2 g3;exact MapR.cons f1 f2 f3 g4
 |e::es,ms,i+1,r=>by
  obtain⟨m,l,rfl,g1,g2,g3,g4⟩:=r.head;exact MapR.cons g1 g2 g3 (MapR.modify hf es l i g4)
theorem MapR.push {es:List ME} {ms:List MapEntry} (r:MapR ρ es ms) {e:ME} {m:MapEntry} (h1:VR ρ e.key m.key) (h2:VR ρ e.val m.val) (h3:e.born=m.born):MapR ρ (es++[e]) (ms++[m]):=by
 obtain⟨r1,r2,r3⟩:=r;refine⟨?_,?_,by simp[r3,h3]⟩
 ·simp only[List.map_append,List.map_cons,List.map_nil]
  exact r1.append (VRs.cons h1 (VRs.nil _))
 ·simp only[List.map_append,List.map_cons,List.map_nil]
  exact r2.append (VRs.cons h2 (VRs.nil _))
theorem map_put (hr:HR ρ h w) {r clock:Nat} {es:List ME} (hb:h.get r=some (.map es clock)) {x:Value} (hx:VR ρ (.map (some r)) x):
  ∃(k:Nat) (ms:Array MapEntry),x= .map (some k)/\w.heap[k]? =some (.map ms clock)/\MapR ρ es ms.toList/\
   ∀(es':List ME) (ms':Array MapEntry) (clock':Nat),MapR ρ es' ms'.toList->J ρ h w ρ (h.put r (.map es' clock')) {w with heap:=w.heap.setIfInBounds k (.map ms' clock')}:=by
 obtain⟨k,hi,hxe⟩:=hx.inv_map;obtain⟨k',d',hi',hd0,ms,g1,g2,g3,g4⟩:=hr.blk r _ hb;rw[hi]at hi';cases hi';refine⟨k,ms,hxe,g1,⟨g2,g3,g4⟩,λes' ms' clock' hm=> ?_⟩;have hlt:k<w.heap.size:=(Array.getElem?_eq_some_iff.1 g1).1;refine J.put hr hb rfl hi rfl rfl (by simp) (λy hy=> ?_) ⟨rfl,ms',?_,hm.1,hm.2.1,hm.2.2⟩
 ·show(w.heap.setIfInBounds k _)[y]? =_
  rw[Array.getElem?_setIfInBounds_ne (Ne.symm hy)]
 ·show(w.heap.setIfInBounds k _)[k]? =_
  simp[hlt]
theorem op_mapUpd (ok:EnvOk P E) {t:TypeId} {x y z:Operand} {vx vy vz:CV} (ho:o.op= .mapUpdate t x y z\/o.op= .insert t x y z) (hr:HR ρ h w) (e:oMapUpd E (E.ty t) vx vy vz h=some (v,h')) (hx:VR ρ vx (a.eval x)) (hy:VR ρ vy (a.eval y)) (hz:VR ρ vz (a.eval z)):OpOk P o a ρ h w v h':=by
 unfold oMapUpd at e;split at e
 ·rename_i s hs
  obtain⟨i,d,zz,k⟩:=ok.row hs;split at e
  ·rename_i kt et hk
   have hd:=kind_map (k.kind.symm.trans hk);subst hd;split at e
   ·rename_i hko
    have hck:=λb=>key_check (P:=P) ok hko hy b w;split at e
    ·rename_i r
     split at e
     ·rename_i es clock hb
      obtain⟨kk,ms,q1,q2,hmr,put⟩:=map_put hr hb hx;split at e
      ·rename_i p hf
       cases e;obtain⟨e0,m,hrun,f3,f4,f5,f6,f7⟩:=find_run ok hko hy hf hmr w;have hm4:ms[p.1]? =some m:=by simpa using f4
       refine⟨undef,_,ρ,.inr ⟨?_,rfl⟩,put _ (ms.modify p.1 λe=>{e with key:=a.eval y,val:=a.eval z}) clock ?_,.undef _⟩
       ·unfold execOp
        rcases ho with ho|ho<;>
         simp[ho,Instr.mapUpdate,run_underlying k.und,q1,run_getMap (P:=P) q2,hck,hrun,hm4,run_keyStays f7,run_setMap (P:=P) q2]
       ·rw[Array.toList_modify]
        exact MapR.modify (f:=λe=>⟨vy,vz,e.born⟩) (g:=λe=>{e with key:=a.eval y,val:=a.eval z}) (λe m _ _ hb=>⟨hy,hz,hb⟩) _ _ _ hmr
      ·rename_i hf
       cases e;have hrun:(Instr.findKey kt (a.eval y) ms.toList).run P w= .ok none w:=find_run ok hko hy hf hmr w;refine⟨undef,_,ρ,.inr ⟨?_,rfl⟩,put _ (ms.push {key:=a.eval y,val:=a.eval z,born:=clock}) (clock+1) ?_,.undef _⟩
       ·unfold execOp
        rcases ho with ho|ho<;>
         simp[ho,Instr.mapUpdate,run_underlying k.und,q1,run_getMap (P:=P) q2,hck,hrun,run_setMap (P:=P) q2]
       ·rw[Array.toList_push]
        exact hmr.push hy hz rfl
      ·cases e
     ·cases e
    ·cases e
   ·cases e
  ·cases e
 ·cases e
theorem op_mapEntry (ok:EnvOk P E) {t:TypeId} {x y:Operand} {vx vy:CV} (ho:o.op= .mapEntry t x y) (hr:HR ρ h w) (e:oMapEntry E (E.ty t) vx vy h=some (v,h')) (hx:VR ρ vx (a.eval x)) (hy:VR ρ vy (a.eval y)):OpOk P o a ρ h w v h':=by
 unfold oMapEntry at e;split at e
 ·rename_i s hs
  obtain⟨i,d,zz,k⟩:=ok.row hs;split at e
  ·rename_i kt et hk
   have hd:=kind_map (k.kind.symm.trans hk);subst hd;split at e
   ·rename_i hko
    have hck:=λb=>key_check (P:=P) ok hko hy b w;split at e
    ·rename_i r
     split at e
     ·rename_i es clock hb
      obtain⟨kk,ms,q1,q2,hmr,put⟩:=map_put hr hb hx;split at e
      ·rename_i p hf
       split at e
       ·rename_i e1 he1
        cases e;obtain⟨e0,m,hrun,f3,f4,f5,f6,f7⟩:=find_run ok hko hy hf hmr w;have hm4:ms[p.1]? =some m:=by simpa using f4
        have he0:e1=e0:=by
         rw[nth_eq]at he1;rw[he1]at f3;exact Option.some.inj f3
        subst he0;refine⟨.tuple #[m.val,goInt m.born],_,ρ,.inl ?_,put _ (ms.modify p.1 λe=>{e with key:=a.eval y}) clock ?_,?_⟩
        ·unfold execOp
         simp[ho,Instr.mapEntry,run_underlying k.und,q1,run_getMap (P:=P) q2,hck,hrun,hm4,run_keyStays f7,run_setMap (P:=P) q2]
        ·rw[Array.toList_modify]
         exact MapR.modify (f:=λe=>⟨vy,e.val,e.born⟩) (g:=λe=>{e with key:=a.eval y}) (λe m _ hv hb=>⟨hy,hv,hb⟩) _ _ _ hmr
        ·rw[f6]
         exact VRs.tup (VRs.cons f5 (VRs.cons (.int _ _) (VRs.nil _)))
       ·cases e
      ·rename_i hf
       split at e
       ·rename_i z0 hz0
        cases e;have hrun:(Instr.findKey kt (a.eval y) ms.toList).run P w= .ok none w:=find_run ok hko hy hf hmr w;obtain⟨Z,z1,z2⟩:=zeroV_sound (ρ:=ρ) ok hz0 w;refine⟨.tuple #[Z,goInt clock],_,ρ,.inl ?_,put _ (ms.push {key:=a.eval y,val:=Z,born:=clock}) (clock+1) ?_,?_⟩
        ·unfold execOp
         simp[ho,Instr.mapEntry,run_underlying k.und,q1,run_getMap (P:=P) q2,hck,hrun,z1,run_setMap (P:=P) q2]
        ·rw[Array.toList_push]
         exact hmr.push hy z2 rfl
        ·exact VRs.tup (VRs.cons z2 (VRs.cons (.int _ _) (VRs.nil _)))
       ·cases e
      ·cases e
     ·cases e
    ·cases e
   ·cases e
  ·cases e
 ·cases e
theorem findBorn_sound (n:Int):∀(es:List ME) (ms:List MapEntry) (i j:Nat),findBorn n es i=some j->es.map (·.born)=ms.map (·.born)->i<=j/\ms.findIdx? (λe=>(e.born:Int)==n)=some (j-i)
 |[],_,_,_,e,_=>by cases e
 |x::es,ms,i,j,e,hb=>by
  cases ms with
  |nil=>cases hb
  |cons m ms=>
   simp only[List.map_cons,List.cons.injEq]at hb;simp only[findBorn]at e;rw[List.findIdx?_cons];split at e
   ·rename_i he
    cases e;rw[intEq_eq]at he;refine⟨Nat.le_refl _,?_⟩;have:((m.born:Int)==n)=true:=by rw[<-hb.1];exact he
    rw[this];simp
   ·rename_i he
    rw[intEq_eq]at he;obtain⟨h1,h2⟩:=findBorn_sound n es ms (i+1) j e hb.2;have:((m.born:Int)==n)=false:=by rw[<-hb.1];exact he
    rw[this,h2];refine⟨by omega,?_⟩;simp;omega
theorem op_entryStore {t:TypeId} {x y z:Operand} {vx vy vz:CV} (ho:o.op= .entryStore t x y z) (hr:HR ρ h w) (e:oEntryStore vx vy vz h=some (v,h')) (hx:VR ρ vx (a.eval x)) (hy:VR ρ vy (a.eval y)) (hz:VR ρ vz (a.eval z)):OpOk P o a ρ h w v h':=by
 unfold oEntryStore at e;split at e
 ·rename_i r
  split at e
  ·rename_i es clock hb
   obtain⟨kk,ms,q1,q2,hmr,put⟩:=map_put hr hb hx;split at e
   ·rename_i kn n
    split at e
    ·rename_i i hf
     cases e;obtain⟨_,h2⟩:=findBorn_sound n es ms.toList 0 i hf hmr.2.2;rw[Nat.sub_zero]at h2;have h3:ms.findIdx? (λe=>(e.born:Int)==n)=some i:=by obtain⟨l⟩:=ms;simpa using h2
     refine⟨undef,_,ρ,.inr ⟨?_,rfl⟩,put _ (ms.modify i λe=>{e with val:=a.eval z}) clock ?_,.undef _⟩
     ·unfold execOp
      simp[ho,Instr.entryStore,q1,hy.inv_int,asInt,asIntOf,run_getMap (P:=P) q2,h3,run_setMap (P:=P) q2]
     ·rw[Array.toList_modify]
      exact MapR.modify (f:=λe=>⟨e.key,vz,e.born⟩) (g:=λe=>{e with val:=a.eval z}) (λe m hk _ hb=>⟨hk,hz,hb⟩) _ _ _ hmr
    ·cases e
   ·cases e
  ·cases e
 ·cases e
end
end Go.CM
