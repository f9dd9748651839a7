/- Places, parts, slices, maps, conversions. No condition. -/
import Derived.Test.YtnjkaahbhebaeaaGreatDoorCmH
set_option linter.unusedVariables false
set_option linter.unusedSimpArgs false
noncomputable section
namespace Go.CM
section
variable {P:Program} {E:Env} {o:Oper} {a:Act} {ρ:Rho} {h h':Heap} {w:World} {v:CV} {f:Operand->CV}
theorem op_fieldAddr (ok:EnvOk P E) {t:TypeId} {x:Operand} {fl:Nat} {vx:CV} (ho:o.op= .fieldAddr t x fl) (hr:HR ρ h w) (e:oFieldAddr E (fieldOf (E.ty t) fl) vx h=some (v,h')) (hx:VR ρ vx (a.eval x)):OpOk P o a ρ h w v h':=by
 unfold oFieldAddr at e;split at e
 ·rename_i fo hfo
  split at e
  ·rename_i n hn
   split at e
   ·rename_i p
    cases e;obtain⟨i,off⟩:=p;obtain⟨k,d,hi,hxe⟩:=hx.inv_ptr;unfold fieldOf at hfo;split at hfo
    ·rename_i s hs
     obtain⟨ti,td,tz,tk⟩:=ok.row hs;split at hfo
     ·rename_i fs hk
      obtain⟨l,rfl,rfl,_⟩:=kind_struct (tk.kind.symm.trans hk);rw[nth_eq,List.getElem?_map]at hfo;simp only[Option.map_eq_some_iff]at hfo;obtain⟨fld,hfl,rfl⟩:=hfo;have hfl:l[fl]? =some fld:=by rw[<-Array.getElem?_toList];exact hfl
      have hsz:=sizeOf_row ok hn w;refine .val (x:= .pointer (some (mk k (d+(off+fld.offset))))) hr ?_ (.ptr _ _ _ _ hi);unfold execOp;simp[ho,hxe,Instr.fieldAt,Instr.sureAddr,run_underlying tk.und,hfl,fieldPlace,hsz,mk_add,Nat.add_assoc]
     ·cases hfo
    ·cases hfo
   ·cases e
  ·cases e
 ·cases e
theorem op_field (ok:EnvOk P E) {t:TypeId} {x:Operand} {fl:Nat} {vx:CV} (ho:o.op= .field t x fl) (hr:HR ρ h w) (e:oField E (fieldOf (E.ty t) fl) vx h=some (v,h')) (hx:VR ρ vx (a.eval x)):OpOk P o a ρ h w v h':=by
 unfold oField at e;split at e
 ·rename_i fo hfo
  split at e
  ·rename_i s2 hs2
   split at e
   ·obtain⟨e1,e2⟩:=withH_some e
    simp only at e1 e2;subst e2;obtain⟨i2,d2,z2,k2⟩:=ok.row hs2;obtain⟨arr,hxe,hv,h1⟩:=hx.inv_agg;obtain⟨X,g1,g2⟩:=part_sound k2 hv h1 e1 w;unfold fieldOf at hfo;split at hfo
    ·rename_i s hs
     obtain⟨ti,td,tz,tk⟩:=ok.row hs;split at hfo
     ·rename_i fs hk
      obtain⟨l,rfl,rfl,_⟩:=kind_struct (tk.kind.symm.trans hk);rw[nth_eq,List.getElem?_map]at hfo;simp only[Option.map_eq_some_iff]at hfo;obtain⟨fld,hfl,rfl⟩:=hfo;have hfl:l[fl]? =some fld:=by rw[<-Array.getElem?_toList];exact hfl
      refine .val hr ?_ g2;unfold execOp;simp[ho,hxe,Instr.field,run_underlying tk.und,hfl,asAgg,g1]
     ·cases hfo
    ·cases hfo
   ·cases e
  ·cases e
 ·cases e
theorem op_indexAddr (ok:EnvOk P E) {t:TypeId} {x y:Operand} {vx vy:CV} (ho:o.op= .indexAddr t x y) (hr:HR ρ h w) (e:oIndexAddr E (E.ty t) vx vy h=some (v,h')) (hx:VR ρ vx (a.eval x)) (hy:VR ρ vy (a.eval y)):OpOk P o a ρ h w v h':=by
 unfold oIndexAddr at e;split at e
 ·rename_i ik n
  have hye:=hy.inv_int;split at e
  ·rename_i s hs
   obtain⟨ti,td,tz,tk⟩:=ok.row hs;split at e
   ·rename_i len el hk
    have hd:=kind_array (tk.kind.symm.trans hk);subst hd;split at e
    ·rename_i p
     obtain⟨i,off⟩:=p;unfold addrAt at e;split at e
     ·rename_i z hz
      split at e
      ·rename_i j hj
       cases e;obtain⟨rfl,hlt⟩:=place_eq hj;obtain⟨k,d,hi,hxe⟩:=hx.inv_ptr;have hsz:=sizeOf_row ok hz w;refine .val (x:= .pointer (some (mk k (d+(off+j*z))))) hr ?_ (.ptr _ _ _ _ hi);unfold execOp;simp[ho,hxe,hye,Instr.indexAt,Instr.sureAddr,asIntOf,run_underlying tk.und,hsz,hlt,mk_add,Nat.add_assoc]
      ·cases e
     ·cases e
    ·cases e
   ·rename_i el hk
    have hd:=kind_slice (tk.kind.symm.trans hk);subst hd;split at e
    ·rename_i p n2 c2 x2
     obtain⟨i,off⟩:=p;unfold addrAt at e;split at e
     ·rename_i z hz
      split at e
      ·rename_i j hj
       cases e;obtain⟨rfl,hlt⟩:=place_eq hj;obtain⟨k,d,c',hi,hxe,_⟩:=hx.inv_slice;have hsz:=sizeOf_row ok hz w;refine .val (x:= .pointer (some (mk k (d+(off+j*z))))) hr ?_ (.ptr _ _ _ _ hi);unfold execOp;simp[ho,hxe,hye,Instr.indexAt,asIntOf,run_underlying tk.und,hsz,hlt,mk_add,Nat.add_assoc]
      ·cases e
     ·cases e
    ·cases e
   ·cases e
  ·cases e
 ·cases e
theorem op_index (ok:EnvOk P E) {t:TypeId} {x y:Operand} {vx vy:CV} (ho:o.op= .index t x y) (hr:HR ρ h w) (e:oIndex E (E.ty t) vx vy h=some (v,h')) (hx:VR ρ vx (a.eval x)) (hy:VR ρ vy (a.eval y)):OpOk P o a ρ h w v h':=by
 unfold oIndex at e;split at e
 ·rename_i ik n
  have hye:=hy.inv_int;split at e
  ·rename_i s hs
   obtain⟨ti,td,tz,tk⟩:=ok.row hs;split at e
   ·rename_i len el hk
    have hd:=kind_array (tk.kind.symm.trans hk);subst hd;split at e
    ·split at e
     ·rename_i j hj
      split at e
      ·rename_i s2 hs2
       obtain⟨e1,e2⟩:=withH_some e;simp only at e1 e2;subst e2;obtain⟨i2,d2,z2,k2⟩:=ok.row hs2;obtain⟨rfl,hlt⟩:=place_eq hj;obtain⟨arr,hxe,hv,h1⟩:=hx.inv_agg;obtain⟨X,g1,g2⟩:=part_sound k2 hv h1 e1 w;refine .val hr ?_ g2;unfold execOp;simp[ho,hxe,hye,Instr.index,asIntOf,run_underlying tk.und,run_sizeOf k2,hlt,g1]
      ·cases e
     ·cases e
    ·cases e
   ·rename_i hk
    have hd:=kind_string (tk.kind.symm.trans hk);subst hd;split at e
    ·split at e
     ·rename_i b _ j
      split at e
      ·rename_i c hc
       cases e;rw[nth_eq]at hc;obtain⟨B,hxe,rfl⟩:=hx.inv_str
       have hc2:B[j]? =some c:=by
        rw[Array.getElem?_toList]at hc;obtain⟨hlt,rfl⟩:=Array.getElem?_eq_some_iff.1 hc;exact(getElem?_pos B j hlt)
       refine .val (x:= .int .u8 c.toNat) hr ?_ (.int _ _);unfold execOp;simp[ho,hxe,hye,Instr.index,asIntOf,run_underlying tk.und,hc2]
      ·cases e
     ·cases e
    ·cases e
   ·cases e
  ·cases e
 ·cases e
theorem op_makeIface (ok:EnvOk P E) {t:TypeId} {x:Operand} {vx:CV} (ho:o.op= .makeInterface t x) (hr:HR ρ h w) (e:oMakeIface (E.ty t) t vx h=some (v,h')) (hx:VR ρ vx (a.eval x)):OpOk P o a ρ h w v h':=by
 unfold oMakeIface at e;split at e
 ·rename_i s hs
  obtain⟨ti,td,tz,tk⟩:=ok.row hs;split at e
  ·cases e
  ·rename_i hk
   cases e;refine .val (x:= .iface t (a.eval x)) hr ?_ (.iface _ _ _ hx)
   have hne:∀ms,td≠ .interface ms:=by
    intro ms e;subst e;exact hk tk.kind
   unfold execOp;simp only[ho,Instr.makeInterface,Sem.run_bind,run_underlying tk.und,Result.andThen_ok];cases td<;>first|rfl|exact absurd rfl (hne _)
 ·cases e
theorem rel_list {l:List Operand} (hx:∀x∈l,VR ρ (f x) (a.eval x)):VRs ρ (l.map f) (l.map a.eval):=by
 induction l with
 |nil=>exact VRs.nil ρ
 |cons x l ih=>exact VRs.cons (hx x (by simp)) (ih λy hy=>hx y (List.mem_cons_of_mem _ hy))
theorem op_makeFunc {fn:FuncId} {first caps:Array Operand} (ho:o.op= .makeFunc (.func fn) first caps) (hr:HR ρ h w) (h1:∀x∈first.toList,VR ρ (f x) (a.eval x)) (h2:∀x∈caps.toList,VR ρ (f x) (a.eval x)):
  OpOk P o a ρ h w (.fn fn (first.toList.map f) (caps.toList.map f)) h:=by
 refine .val (x:= .func (.func fn) (first.map a.eval) (caps.map a.eval)) hr (by unfold execOp;simp[ho,Instr.makeFunc]) (VRs.fn ?_ ?_)
 ·rw[Array.toList_map];exact rel_list h1
 ·rw[Array.toList_map];exact rel_list h2
theorem op_extract {x:Operand} {i:Nat} {vx:CV} (ho:o.op= .extract x i) (hr:HR ρ h w) (e:oExtract vx i=some v) (hx:VR ρ vx (a.eval x)):OpOk P o a ρ h w v h:=by
 unfold oExtract at e;split at e
 ·rw[nth_eq]at e
  obtain⟨arr,hxe,hv⟩:=hx.inv_tup;obtain⟨y,h1,h2⟩:=hv.get e;have h1:arr[i]? =some y:=by rw[<-Array.getElem?_toList];exact h1
  exact .val hr (by unfold execOp;simp[ho,hxe,Instr.extract,h1]) h2
 ·cases e
theorem newSl_some {n c:Nat} {cs:Option (List CV)} {p:CV×Heap} (e:newSl h n c cs=some p):∃l,cs=some l/\p=(.slice (some (h.next,0)) n c 0,h.new (.cells l false)):=by
 unfold newSl at e;split at e
 ·cases e;exact⟨_,rfl,rfl⟩
 ·cases e
def repV (zs:List Value):Nat->List Value
 |0=>[]
 |n+1=>zs++repV zs n
theorem rep_sound {zero:List CV} {zs:List Value} (hz:VRs ρ zero zs):∀n,VRs ρ (rep zero n) (repV zs n)
 |0=>VRs.nil ρ
 |n+1=>hz.append (rep_sound hz n)
theorem rep_one {zero:List CV} (hz:∀c∈zero,c.one=true):∀n,∀c∈rep zero n,c.one=true
 |0,c,hc=>by cases hc
 |n+1,c,hc=>by
  rcases List.mem_append.1 hc with hc|hc
  ·exact hz c hc
  ·exact rep_one hz n c hc
theorem rep_length (zero:List CV):∀n,(rep zero n).length=n*zero.length
 |0=>by simp[rep]
 |n+1=>by simp[rep,rep_length zero n,Nat.add_mul];omega
theorem range_rep (zs:Array Value):∀n,((List.range (n*zs.size)).map λi=>zs[i%zs.size]!)=repV zs.toList n
 |0=>by simp[repV]
 |n+1=>by
  have e:(n+1)*zs.size=zs.size+n*zs.size:=by rw[Nat.add_mul,Nat.one_mul,Nat.add_comm]
  rw[e,List.range_add,List.map_append,repV]
  congr 1
  ·apply List.ext_getElem
   ·simp
   ·intro i h1 h2
    have hi:i<zs.size:=by simpa using h1
    simp[Nat.mod_eq_of_lt hi,hi]
  ·rw[List.map_map,<-range_rep zs n]
   apply List.map_congr_left;intro i _;simp
theorem range_arr (zs:Array Value) (n:Nat) (z0:Array Value) (hz:n*zs.size≠0->z0=zs):((Array.range (n*zs.size)).map (z0[· %z0.size]!)).toList=repV zs.toList n:=by
 by_cases h0:n*zs.size=0
 ·have:repV zs.toList n=[]:=by
    rw[<-range_rep,h0];rfl
  rw[this,h0];simp
 ·rw[hz h0,<-range_rep]
  simp
theorem VR.newSlice (ρ:Rho) (i k n c:Nat) (hn:n<=c) (hc:c<=9223372036854775807):VR (upd ρ i (k,0) 0) (.slice (some (i,0)) n c 0) (.slice (some (mk k 0)) n c):=by
 have:=VR.slice (ρ:=upd ρ i (k,0) 0) i 0 n c 0 k 0 c (upd_same _ _ _ _) (Nat.le_refl _) (λ_=>rfl) (λe=>absurd rfl e) hn hc;simpa using this
theorem op_buildSlice (ok:EnvOk P E) {t:TypeId} {n:Nat} {ps:Array (Nat×Operand)} (ho:o.op= .buildSlice t n ps) (hr:HR ρ h w) (e:oBuildSlice E (E.ty t) n (parts f ps.toList) h=some (v,h'))
  (hx:∀x,x∈ps.toList.map (·.2)->VR ρ (f x) (a.eval x)):OpOk P o a ρ h w v h':=by
 have hp:=parts_sound hx;unfold oBuildSlice at e;split at e
 ·rename_i s hs
  obtain⟨i,d,z,k⟩:=ok.row hs;split at e
  ·rename_i el hk
   have hd:=kind_slice (k.kind.symm.trans hk);subst hd;split at e
   ·rename_i es hes
    obtain⟨ei,ed,ez,ek⟩:=ok.row hes;obtain⟨h1,h2⟩:=consts_sound (ρ:=ρ) ek.cells;split at e
    ·rename_i hle
     have hle:=Nat.le_of_ble_eq_true hle;obtain⟨l,hl,e⟩:=newSl_some e;cases e
     have hzs:ez.cells.size=es.size:=by
      have h3:=h1.1;have h4:=ek.len;have h5:=ek.size;simp only[Array.length_toList]at h3;omega
     let z0:Array Value:=if n*es.size=0 then #[]else ez.cells
     have harr:((Array.range (n*es.size)).map (z0[· %z0.size]!)).toList=repV ez.cells.toList n:=by
      rw[<-hzs];refine range_arr ez.cells n z0 (λhne=> ?_);simp only[z0];rw[if_neg (by rw[<-hzs];exact hne)]
     obtain⟨arr',g1,g2,g3⟩:=fill_sound (λi=>some (i*es.size,es.size)) _ _ _ _ ((Array.range (n*es.size)).map (z0[· %z0.size]!)) hl (by rw[harr];exact rep_sound h1 n) (rep_one h2 n) hp;have hbig:n<=9223372036854775807:=by omega
     ·refine⟨_,_,_,.inl ?_,J.alloc hr el g2 g3 w rfl rfl rfl,VR.newSlice ρ _ _ n n (Nat.le_refl _) hbig⟩
      have hb:¬n*es.size>2 ^ 24:=by omega
      unfold execOp;simp only[ho,Instr.buildSlice,Sem.run_bind,run_underlying k.und,Result.andThen_ok,run_sizeOf ek];rw[if_neg hb];by_cases hne:n*es.size=0
      ·simp only[z0,hne,if_true]at g1
       simp only[hne,if_true,Sem.run_bind,Sem.run_pure,Result.andThen_ok];rw[g1];simp[newRow,mk]
      ·simp only[z0,hne,if_false]at g1
       simp only[hne,if_false,Sem.run_bind,zeroValue,typeInfo,ek.info,ek.zero,run_program,Sem.run_pure,Result.andThen_ok];rw[g1];simp[newRow,mk]
    ·cases e
   ·cases e
  ·cases e
 ·cases e
theorem op_makeSlice (ok:EnvOk P E) {t:TypeId} {x y:Operand} {vx vy:CV} (ho:o.op= .makeSlice t x y) (hr:HR ρ h w) (e:oMakeSlice E (E.ty t) vx vy h=some (v,h')) (hx:VR ρ vx (a.eval x)) (hy:VR ρ vy (a.eval y)):OpOk P o a ρ h w v h':=by
 unfold oMakeSlice at e;split at e
 ·rename_i s hs
  obtain⟨i,d,z,k⟩:=ok.row hs;split at e
  ·rename_i el hk
   have hd:=kind_slice (k.kind.symm.trans hk);subst hd;split at e
   ·rename_i es hes
    obtain⟨ei,ed,ez,ek⟩:=ok.row hes;obtain⟨h1,h2⟩:=consts_sound (ρ:=ρ) ek.cells;split at e
    ·rename_i c0
     split at e
     ·rename_i c hc
      obtain⟨rfl,hcl⟩:=upto_eq hc;split at e
      ·rename_i l0
       split at e
       ·rename_i l hl
        obtain⟨rfl,hll⟩:=upto_eq hl;split at e
        ·rename_i hb
         have hb:=Nat.le_of_ble_eq_true hb;obtain⟨cs,hcs,e⟩:=newSl_some e;cases e;cases hcs
         have hzs:ez.cells.size=es.size:=by
          have h3:=h1.1;have h4:=ek.len;have h5:=ek.size;simp only[Array.length_toList]at h3;omega
         let z0:Array Value:=if c*es.size=0 then #[]else ez.cells
         have harr:((Array.range (c*es.size)).map (z0[· %z0.size]!)).toList=repV ez.cells.toList c:=by
          rw[<-hzs];refine range_arr ez.cells c z0 (λhne=> ?_);simp only[z0];rw[if_neg (by rw[<-hzs];exact hne)]
         have hxe:=hx.inv_int;have hye:=hy.inv_int;refine⟨_,_,_,.inl ?_,J.alloc hr el (arr:=(Array.range (c*es.size)).map (z0[· %z0.size]!)) (by rw[harr];exact rep_sound h1 c) (rep_one h2 c) w rfl rfl rfl,VR.newSlice ρ _ _ l c hll (by omega)⟩
         have hbc:es.bytes*c<=4294967296:=by
          have:=Nat.mul_le_mul hb hcl;omega
         have hbytes:ei.bytes=es.bytes:=ek.bytes.symm;have w1:IntKind.i64.wrap (l:Int)=l:=IntWalk.i64_in _ (by omega);have w2:IntKind.i64.wrap (c:Int)=c:=IntWalk.i64_in _ (by omega);have hbi:((ei.bytes:Int)*(c:Int))<=4294967296:=by rw[hbytes,<-Int.natCast_mul];omega
         have hbl:((ei.bytes:Int)*(l:Int))<=4294967296:=by
          have:es.bytes*l<=4294967296:=Nat.le_trans (Nat.mul_le_mul_left _ hll) hbc;rw[hbytes,<-Int.natCast_mul];omega
         have c1:¬((c:Int)<0):=by omega
         have c2:¬(281474976710656<(ei.bytes:Int)*(c:Int)):=by omega
         have c3:¬((l:Int)<0):=by omega
         have c4:¬((c:Int)<(l:Int)):=by omega
         unfold execOp;by_cases hne:c*es.size=0
         ·simp only[z0,hne,if_true]
          simp[ho,hxe,hye,Instr.makeSlice,run_underlying k.und,asInt,asIntOf,typeInfo,ek.info,w1,w2,c1,c2,c3,c4,run_sizeOf ek,hne,newRow,mk]
         ·simp only[z0,hne,if_false]
          have hne':¬(c=0\/es.size=0):=by rw[<-Nat.mul_eq_zero];exact hne
          simp[ho,hxe,hye,Instr.makeSlice,run_underlying k.und,asInt,asIntOf,typeInfo,ek.info,w1,w2,c1,c2,c3,c4,run_sizeOf ek,hne',zeroValue,ek.zero,newRow,mk];exact λh0=>absurd h0 hne
        ·cases e
       ·cases e
      ·cases e
     ·cases e
    ·cases e
   ·cases e
  ·cases e
 ·cases e
theorem op_makeMap {t:TypeId} (ho:o.op= .makeMap t none) (hr:HR ρ h w):OpOk P o a ρ h w (.map (some h.next)) (h.new (.map [] 0)):=by
 refine⟨.map (some w.heap.size),w.alloc (.map #[] 0),_,.inl ?_,J.new hr 0 rfl rfl (by rw[World.size_alloc];omega) (λx hx=>heap_alloc_old w _ x hx) ?_,.map _ _ (upd_same _ _ _ _)⟩
 ·unfold execOp
  simp[ho,Instr.makeMap]
 ·exact⟨rfl,#[],heap_alloc_new _ _,VRs.nil _,VRs.nil _,rfl⟩
end
end Go.CM

noncomputable section
namespace Go.CM
def OptR (ρ:Rho):Option CV->Option Value->Prop
 |none,none=>True
 |some v,some x=>VR ρ v x
 |_,_=>False
section
variable {P:Program} {E:Env} {o:Oper} {a:Act} {ρ:Rho} {h h':Heap} {w:World} {v:CV} {f:Operand->CV}
theorem optR_map {x:Option Operand} (hx:∀y,x=some y->VR ρ (f y) (a.eval y)):OptR ρ (x.map f) (x.map a.eval):=by
 cases x with
 |none=>trivial
 |some y=>exact hx y rfl
theorem run_bound {n:Int} {m i:Nat} (hn:upto n m=some i) (k:IntKind) (code:BoundsCode) (w:World):(Instr.sliceBound (.int k n) m code).run P w= .ok i w:=by
 obtain⟨rfl,hi⟩:=upto_eq hn;simp[Instr.sliceBound,asIntOf,hi]
def optBound (v:Option Value) (m:Nat) (code:BoundsCode) (d:Nat):Sem Nat:=
 match v with
 |some v=>Instr.sliceBound v m code
 |none=>pure d
theorem lo_run {lo:Option CV} {LO:Option Value} {hh l:Nat} (h2:loOf lo hh=some l) (hl:OptR ρ lo LO) (code:BoundsCode) (w:World):(optBound LO hh code 0).run P w= .ok l w:=by
 unfold loOf at h2;split at h2
 ·cases LO with
  |none=>cases h2;rfl
  |some _=>exact hl.elim
 ·cases LO with
  |none=>exact hl.elim
  |some X=>
   have hX:X=_:=VR.inv_int hl;subst hX;exact run_bound h2 _ _ w
 ·cases h2
theorem hi_run {hi:Option CV} {HI:Option Value} {n c c' hh:Nat} (h1:hiOf hi n c=some hh) (hh':OptR ρ hi HI) (hc:c<=c') (code:BoundsCode) (w:World):(optBound HI c' code n).run P w= .ok hh w:=by
 unfold hiOf at h1;split at h1
 ·cases HI with
  |none=>cases h1;rfl
  |some _=>exact hh'.elim
 ·cases HI with
  |none=>exact hh'.elim
  |some X=>
   have hX:X=_:=VR.inv_int hh';subst hX;obtain⟨rfl,hle⟩:=upto_eq h1;refine run_bound ?_ _ _ w;show(match Nat.ble hh c' with|true=>some hh|false=>none)=some hh
   rw[Nat.ble_eq_true_of_le (Nat.le_trans hle hc)]
 ·cases h1
theorem bounds_sound {lo hi:Option CV} {LO HI:Option Value} {n c c' hh l:Nat} (h1:hiOf hi n c=some hh) (h2:loOf lo hh=some l) (hl:OptR ρ lo LO) (hh':OptR ρ hi HI) (hc:c<=c') (b:Bool) (w:World):
  (Instr.sliceBounds b n c' LO HI none).run P w= .ok (l,hh,c') w:=by
 have lo_ok:=lo_run (P:=P) h2 hl .sliceB w;have hi_ok:=λcode=>hi_run (P:=P) h1 hh' hc code w;unfold optBound at lo_ok hi_ok;unfold Instr.sliceBounds;cases LO<;>cases HI<;>simp_all
theorem hi_le {hi:Option CV} {n c hh:Nat} (h1:hiOf hi n c=some hh) (hn:n<=c):hh<=c:=by
 unfold hiOf at h1;split at h1
 ·cases h1;exact hn
 ·exact(upto_eq h1).2
 ·cases h1
theorem lo_le {lo:Option CV} {hh l:Nat} (h1:loOf lo hh=some l):l<=hh:=by
 unfold loOf at h1;split at h1
 ·cases h1;exact Nat.zero_le _
 ·exact(upto_eq h1).2
 ·cases h1
theorem VR.slicePart {p:Option (Nat×Nat)} {n c ex:Nat} {x:Value} (hx:VR ρ (.slice p n c ex) x):∃base c',x= .slice base n c'/\c<=c'/\(ex=0->c'=c)/\n<=c/\c'<=9223372036854775807/\
  (∀n2 c2 c2' ex2,c2<=c2'->(ex2=0->c2'=c2)->(ex2≠0->ex2=ex/\c2'=c')->n2<=c2->c2'<=9223372036854775807->VR ρ (.slice p n2 c2 ex2) (.slice base n2 c2'))/\
  (∀q l n2 c2 c2' ex2,c2<=c2'->(ex2=0->c2'=c2)->(ex2≠0->ex2=ex/\c2'=c'-l/\l<=c'/\q=l*ex)->n2<=c2->c2'<=9223372036854775807->VR ρ (.slice (sliceAtO p 1 q) n2 c2 ex2) (.slice (base.map (·.add q)) n2 c2')):=by
 cases hx with
 |nilslice _ _ _ c' h1 h2 h3 h4=>
  exact⟨none,c',rfl,h1,h2,h3,h4,λ_ _ _ _ a b _ c d=> .nilslice _ _ _ _ a b c d,λ_ _ _ _ _ _ a b _ c d=> .nilslice _ _ _ _ a b c d⟩
 |slice i off _ _ _ k d c' hi h1 h2 h6 h3 h4=>
  refine⟨_,c',rfl,h1,h2,h3,h4,λ_ _ _ _ a b r c d=> .slice _ _ _ _ _ _ _ _ hi a b (λe=>by obtain⟨rfl,rfl⟩:=r e;exact h6 e) c d,λq l _ _ _ _ a b r c e=> ?_⟩
  have:=VR.slice (ρ:=ρ) i (off+1*q) _ _ _ k d _ hi a b (λe2=>by
   obtain⟨q1,q2,hl,q3⟩:=r e2;rw[q1]at e2 ⊢;have:=h6 e2;have h7:=Nat.sub_mul c' l ex;have h8:=Nat.mul_le_mul_right ex hl;rw[q2,q3];omega) c e
  simpa[sliceAtO,mk_add,Nat.add_assoc]using this
theorem sliceAtO_eq (p:Option (Nat×Nat)) (l z:Nat):sliceAtO p l z=sliceAtO p 1 (l*z):=by
 unfold sliceAtO;cases p<;>simp
theorem op_slice (ok:EnvOk P E) {t:TypeId} {x:Operand} {lo hi mx:Option Operand} {vx:CV} {vl vh vm:Option CV} (ho:o.op= .slice t x lo hi mx) (hr:HR ρ h w) (e:oSlice E (E.ty t) vx vl vh vm=some v) (hx:VR ρ vx (a.eval x))
  (hl:OptR ρ vl (lo.map a.eval)) (hh:OptR ρ vh (hi.map a.eval)) (hm:OptR ρ vm (mx.map a.eval)):OpOk P o a ρ h w v h:=by
 have fin:∀{X:Value},(Instr.sliceAt t (a.eval x) (lo.map a.eval) (hi.map a.eval) (mx.map a.eval)).run P w= .ok X w->VR ρ v X->OpOk P o a ρ h w v h:=
  λh1 h2=> .val hr (by unfold execOp;simp[ho,h1]) h2
 unfold oSlice at e;split at e
 ·cases e
 ·rename_i s hs
  obtain⟨ti,td,tz,tk⟩:=ok.row hs;split at e
  ·
   rename_i hk;have hd:=kind_string (tk.kind.symm.trans hk);subst hd;split at e
   ·rename_i b
    split at e
    ·have hmn:mx.map a.eval=none:=by cases hmm:mx.map a.eval with|none=>rfl|some _=>rw[hmm]at hm;exact hm.elim
     split at e
     ·rename_i hh0 hhi
      split at e
      ·rename_i l hlo
       rw[len_eq]at hhi;obtain⟨B,hxe,rfl⟩:=hx.inv_str;have hsz:B.data.toList.length=B.size:=by simp
       rw[hsz]at hhi;have hb:=bounds_sound (P:=P) hhi hlo hl hh (Nat.le_refl _) false w;have hle1:=hi_le hhi (Nat.le_refl _);have hle2:=lo_le hlo;rw[cut_eq]at e;have hcond:l+(hh0-l)<=B.data.toList.length:=by omega
       rw[if_pos hcond]at e;simp only[Option.map_some,Option.some.injEq]at e;subst e;refine fin (X:= .string (B.extract l hh0)) ?_ ?_
       ·simp[Instr.sliceAt,Instr.slice,run_underlying tk.und,hxe,hmn,hb]
       ·have he:(B.extract l hh0).data.toList=(B.data.toList.drop l).take (hh0-l):=by
          simp[ByteArray.data_extract]
        rw[<-he];exact .str _
      ·cases e
     ·cases e
    ·cases e
   ·cases e
  ·
   rename_i el hk;have hd:=kind_slice (tk.kind.symm.trans hk);subst hd;split at e
   ·rename_i p n cap ex
    obtain⟨base,c',hxe,g1,g2,g3,g4,g5,g6⟩:=hx.slicePart;split at e
    ·rename_i z hz
     have hzr:=sizeOf_row ok hz w;split at e
     ·have hmn:mx.map a.eval=none:=by cases hmm:mx.map a.eval with|none=>rfl|some _=>rw[hmm]at hm;exact hm.elim
      split at e
      ·rename_i hh0 hhi
       split at e
       ·rename_i l hlo
        have hb:=bounds_sound (P:=P) hhi hlo hl hh g1 true w;have hle1:=hi_le hhi g3;have hle2:=lo_le hlo
        have hrun:(Instr.sliceAt t (a.eval x) (lo.map a.eval) (hi.map a.eval) (mx.map a.eval)).run P w= .ok (.slice (if c'=l then base else base.map (·.add (l*z))) (hh0-l) (c'-l)) w:=by
         simp[Instr.sliceAt,Instr.slice,run_underlying tk.und,hxe,hmn,hb,hzr]
        split at e
        ·rename_i hcl
         have hcl:=Nat.eq_of_beq_eq_true hcl;split at e
         ·cases e
          have hc':=g2 rfl;rw[if_pos (by omega)]at hrun;exact fin hrun (g5 _ _ _ _ (by omega) (λ_=>by omega) (λe=>absurd rfl e) (by omega) (by omega))
         ·split at e
          ·cases e
           have hcz:cap=0:=hcl;refine fin hrun ?_
           have e2:(if c'=0 then base else base.map (·.add (0*z)))=base:=by
            split
            ·rfl
            ·cases base with
             |none=>rfl
             |some b=>simp[Addr.add]
           rw[e2];exact g5 _ _ _ _ (by omega) (λhf=>by cases hf) (λ_=>⟨rfl,by omega⟩) (by omega) (by omega)
          ·rename_i l0 _hc0
           split at e
           ·rename_i q
            cases e;obtain⟨qi,qo⟩:=q;obtain⟨qk,qd,qc,_,hxq,_⟩:=hx.inv_slice;have hbase:base=some (mk qk (qd+qo)):=by rw[hxe]at hxq;injection hxq
            have hh:hh0-(l0+1)=0:=by omega
            rw[hbase,hh]at hrun
            have e3:(if c'=l0+1 then some (mk qk (qd+qo))else Option.map (λx=>x.add ((l0+1)*z)) (some (mk qk (qd+qo))))=some (if c'=l0+1 then mk qk (qd+qo)else(mk qk (qd+qo)).add ((l0+1)*z)):=by
             split<;>rfl
            rw[e3]at hrun;exact fin hrun (.empty _ _ (by omega))
           ·cases e
        ·rename_i hcl
         have hcl:cap≠l:=by intro e;subst e;rw[Nat.beq_refl]at hcl;cases hcl
         split at e
         ·rename_i hexz
          cases e;rw[if_neg (by omega)]at hrun;refine fin hrun ?_;rw[sliceAtO_eq];refine g6 _ l _ _ _ _ (by omega) (λhex=>by have:=g2 hex;omega) (λhne=>⟨rfl,rfl,by omega,?_⟩) (by omega) (by omega);simp only[Bool.or_eq_true]at hexz;rcases hexz with hexz|hexz
          ·exact absurd (Nat.eq_of_beq_eq_true hexz) hne
          ·rw[Nat.eq_of_beq_eq_true hexz]
         ·cases e
       ·cases e
      ·cases e
     ·rename_i mk0 m0
      split at e
      ·rename_i m hmm
       split at e
       ·rename_i hk0 h0
        split at e
        ·rename_i hh0 hhi
         split at e
         ·rename_i l hlo
          obtain⟨rfl,hmc⟩:=upto_eq hmm;obtain⟨hEQ,hhm⟩:=upto_eq hhi;have hle2:=lo_le hlo;cases hmx:mx.map a.eval with
          |none=>rw[hmx]at hm;exact hm.elim
          |some M=>
           rw[hmx]at hm;have hM:=VR.inv_int hm;cases hhx:hi.map a.eval with
           |none=>rw[hhx]at hh;exact hh.elim
           |some H=>
            rw[hhx]at hh;have hH:=VR.inv_int hh;have lo_ok:=lo_run (P:=P) hlo hl .slice3C w;unfold optBound at lo_ok
            have b1:(Instr.sliceBound M c' .slice3Acap).run P w= .ok m w:=by
             rw[hM];refine run_bound ?_ _ _ w;show(match Nat.ble m c' with|true=>some m|false=>none)=some m
             rw[Nat.ble_eq_true_of_le (Nat.le_trans hmc g1)]
            have b2:(Instr.sliceBound H m .slice3B).run P w= .ok hh0 w:=by
             rw[hH];exact run_bound hhi _ _ w
            have hrun:(Instr.sliceAt t (a.eval x) (lo.map a.eval) (some H) (some M)).run P w= .ok (.slice (if m=l then base else base.map (·.add (l*z))) (hh0-l) (m-l)) w:=by
             cases hlx:lo.map a.eval with
             |none=>
              rw[hlx]at lo_ok;have:l=0:=by simpa using lo_ok.symm
              subst this;simp[Instr.sliceAt,Instr.slice,Instr.sliceBounds,run_underlying tk.und,hxe,b1,b2,hzr]
             |some L=>
              rw[hlx]at lo_ok;simp only at lo_ok;simp[Instr.sliceAt,Instr.slice,Instr.sliceBounds,run_underlying tk.und,hxe,b1,b2,lo_ok,hzr]
            rw[<-hhx,<-hmx]at hrun;split at e
            ·rename_i hcl
             have hcl:=Nat.eq_of_beq_eq_true hcl;cases e;rw[if_pos hcl]at hrun;exact fin hrun (g5 _ _ _ _ (by omega) (λ_=>by omega) (λe=>absurd rfl e) (by omega) (by omega))
            ·rename_i hcl
             cases e;have hcl:m≠l:=by intro e;subst e;rw[Nat.beq_refl]at hcl;cases hcl
             rw[if_neg hcl]at hrun;refine fin hrun ?_;rw[sliceAtO_eq];exact g6 _ l _ _ _ _ (by omega) (λ_=>by omega) (λe=>absurd rfl e) (by omega) (by omega)
         ·cases e
        ·cases e
       ·cases e
      ·cases e
     ·cases e
    ·cases e
   ·obtain⟨p,c',hxe,hcm⟩:=hx.inv_empty
    split at e
    ·have hmn:mx.map a.eval=none:=by cases hmm:mx.map a.eval with|none=>rfl|some _=>rw[hmm]at hm;exact hm.elim
     split at e
     ·rename_i hh0 hhi
      split at e
      ·rename_i l hlo
       split at e
       ·rename_i z hz
        cases e;have hzr:=sizeOf_row ok hz w;have hb:=bounds_sound (P:=P) hhi hlo hl hh (Nat.zero_le c') true w;have hle1:=hi_le hhi (Nat.le_refl _);have hle2:=lo_le hlo;have h0:hh0=0:=by omega
        have l0:l=0:=by omega
        subst h0 l0
        have hrun:(Instr.sliceAt t (a.eval x) (lo.map a.eval) (hi.map a.eval) (mx.map a.eval)).run P w= .ok (.slice (if c'=0 then some p else(some p).map (·.add (0*z))) 0 (c'-0)) w:=by
         simp[Instr.sliceAt,Instr.slice,run_underlying tk.und,hxe,hmn,hb,hzr]
        have e3:(if c'=0 then some p else(some p).map (·.add (0*z)))=some (if c'=0 then p else p.add (0*z)):=by split<;>rfl
        rw[e3]at hrun;exact fin hrun (.empty _ _ (by omega))
       ·cases e
      ·cases e
     ·cases e
    ·cases e
   ·cases e
  ·
   rename_i n el hk;have hd:=kind_array (tk.kind.symm.trans hk);subst hd;split at e
   ·rename_i p
    obtain⟨i,off⟩:=p;obtain⟨k,d,hi2,hxe⟩:=hx.inv_ptr;split at e
    ·have hmn:mx.map a.eval=none:=by cases hmm:mx.map a.eval with|none=>rfl|some _=>rw[hmm]at hm;exact hm.elim
     split at e
     ·rename_i z hz
      have hzr:=sizeOf_row ok hz w;split at e
      ·rename_i hh0 hhi
       split at e
       ·rename_i l hlo
        have hb:=bounds_sound (P:=P) hhi hlo hl hh (Nat.le_refl _) false w;have hle1:=hi_le hhi (Nat.le_refl _);have hle2:=lo_le hlo
        have hrun:(Instr.sliceAt t (a.eval x) (lo.map a.eval) (hi.map a.eval) (mx.map a.eval)).run P w= .ok (.slice (some (if n=l then mk k (d+off)else(mk k (d+off)).add (l*z))) (hh0-l) (n-l)) w:=by
         simp[Instr.sliceAt,Instr.sureAddr,run_underlying tk.und,hxe,hmn,hb,hzr]
        split at e
        ·rename_i hcl
         have hcl:=Nat.eq_of_beq_eq_true hcl;split at e
         ·rename_i hn
          have hn:=Nat.le_of_ble_eq_true hn;cases e;rw[if_pos hcl]at hrun;exact fin hrun (.slice _ _ _ _ _ _ _ _ hi2 (Nat.le_refl _) (λ_=>rfl) (λe=>absurd rfl e) (by omega) (by omega))
         ·cases e
        ·rename_i hcl
         have hcl:n≠l:=by intro e;subst e;rw[Nat.beq_refl]at hcl;cases hcl
         split at e
         ·rename_i hn
          have hn:=Nat.le_of_ble_eq_true hn;cases e;rw[if_neg hcl,mk_add,Nat.add_assoc]at hrun;exact fin hrun (.slice _ _ _ _ _ _ _ _ hi2 (Nat.le_refl _) (λ_=>rfl) (λe=>absurd rfl e) (by omega) (by omega))
         ·cases e
       ·cases e
      ·cases e
     ·cases e
    ·cases e
   ·cases e
  ·cases e
end
end Go.CM
