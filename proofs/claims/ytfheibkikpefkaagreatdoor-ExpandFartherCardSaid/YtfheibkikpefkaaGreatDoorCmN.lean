/- All operations that call no function. No condition. -/
import Derived.Test.YtfheibkikpefkaaGreatDoorCmM
set_option linter.unusedVariables false
set_option linter.unusedSimpArgs false
noncomputable section
namespace Go.CM
section
variable {P:Program} {E:Env} {o:Oper} {a:Act} {ρ:Rho} {h h':Heap} {w:World} {v:CV} {f:Operand->CV}
theorem max_sound {b:Bool} {x y:CV} {X Y:Value} (e:max2 b x y=some v) (hx:VR ρ x X) (hy:VR ρ y Y):∃Z,((if b then Builtin.max2 X Y else Builtin.min2 X Y).run P w= .ok Z w)/\VR ρ v Z:=by
 unfold max2 at e;split at e
 ·split at e
  ·cases e
   rw[hx.inv_int,hy.inv_int];rename_i k m y0 k2 n;cases b
   ·refine⟨_,by simp[Builtin.min2];rfl,?_⟩
    simp only[intLe_eq];by_cases hc:m<=n
    ·have:¬n<m:=by omega
     simp only[hc,decide_true,this,if_false];exact .int _ _
    ·have:n<m:=by omega
     simp only[hc,decide_false,this,if_true];exact .int _ _
   ·refine⟨_,by simp[Builtin.max2];rfl,?_⟩
    simp only[intLe_eq];by_cases hc:n<=m
    ·have:¬m<n:=by omega
     simp only[hc,decide_true,this,if_false];exact .int _ _
    ·have:m<n:=by omega
     simp only[hc,decide_false,this,if_true];exact .int _ _
  ·cases e
 ·cases e
theorem fold_sound {b:Bool}:∀{l:List CV} {L:List Value} {x:CV} {X:Value},fold2 (max2 b) x l=some v->VR ρ x X->VRs ρ l L->∃Z,(L.foldlM (if b then Builtin.max2 else Builtin.min2) X:Sem Value).run P w= .ok Z w/\VR ρ v Z
 |[],L,x,X,e,hx,hl=>by
  cases e;rw[hl.of_nil];exact⟨X,rfl,hx⟩
 |y::l,L,x,X,e,hx,hl=>by
  obtain⟨Y,r,rfl,h1,h2⟩:=hl.head;simp only[fold2]at e;split at e
  ·rename_i z hz
   obtain⟨Z1,g1,g2⟩:=max_sound (P:=P) (w:=w) hz hx h1;obtain⟨Z2,g3,g4⟩:=fold_sound e g2 h2;refine⟨Z2,?_,g4⟩;rw[List.foldlM_cons,Sem.run_bind];have:((if b then Builtin.max2 else Builtin.min2) X Y).run P w= .ok Z1 w:=by cases b<;>exact g1
   rw[this];exact g3
  ·cases e
theorem copy_sound (ok:EnvOk P E) (hr:HR ρ h w) {t ty:TypeId} {tys:Array TypeId} (ht:tys[0]? =some t) {x y:Value} {vx vy:CV} (e:oCopy E h (E.ty t) vx vy=some (v,h')) (hx:VR ρ vx x) (hy:VR ρ vy y):
  ∃X w',(Builtin.copy_ tys ty #[x,y]).run P w= .ok X w'/\J ρ h w ρ h' w'/\VR ρ v X:=by
 unfold oCopy at e;split at e
 ·rename_i s hs
  obtain⟨i,d,z,k⟩:=ok.row hs;split at e
  ·rename_i el hk
   have hd:=kind_slice (k.kind.symm.trans hk);subst hd;split at e
   ·rename_i base n cap ex
    obtain⟨bs,c',hxe,g1,g2,g3,g4,_g5,_g6⟩:=hx.slicePart;split at e
    ·rename_i es hes
     obtain⟨ei,ed,ez,ek⟩:=ok.row hes;split at e
     ·rename_i m hm
      have hl:=srcLen_sound (P:=P) hm hy w;split at e
      ·rename_i hmin
       cases e
       have hc0:(Builtin.firstCells es.size 0 y).run P w= .ok #[] w:=by
        unfold srcLen at hm;split at hm
        ·obtain⟨b2,c2,rfl,_⟩:=hy.slicePart
         cases b2<;>simp[Builtin.firstCells,loadCells,loadCellsFrom]
        ·obtain⟨p2,c2,rfl,_⟩:=hy.inv_empty
         simp[Builtin.firstCells,loadCells,loadCellsFrom]
        ·obtain⟨B,rfl,_⟩:=hy.inv_str
         have:(B.extract 0 0).data= #[]:=by simp[ByteArray.data_extract]
         simp[Builtin.firstCells,this]
        ·cases hm
       refine⟨.int .i64 0,w,?_,J.refl hr,.int _ _⟩;have hmn:Nat.min m n=0:=hmin;subst hxe;cases bs<;>simp[Builtin.copy_,ht,run_underlying k.und,hl,hmn,run_sizeOf ek,hc0,storeCells,goInt]
      ·rename_i k0 hmin
       split at e
       ·rename_i cs hcs
        split at e
        ·cases e
        ·rename_i p
         split at e
         ·rename_i h2 hp
          cases e;obtain⟨i0,off⟩:=p;obtain⟨kk,dd,c2,hi,hxe2,_⟩:=hx.inv_slice;obtain⟨news,n1,n2,n3,n4⟩:=src_sound (P:=P) hr hcs hy;obtain⟨w',s1,s2⟩:=putCells_sound (P:=P) hr hp hi n2 n3;refine⟨.int .i64 (k0+1:Nat),w',?_,s2,.int _ _⟩;subst hxe2;have hmn:Nat.min m n=k0+1:=hmin;have hn1:=n1 w rfl;simp[Builtin.copy_,ht,run_underlying k.und,hl,hmn,run_sizeOf ek,hn1,s1,goInt]
         ·cases e
       ·cases e
     ·cases e
    ·cases e
   ·obtain⟨p,c',hxe,_⟩:=hx.inv_empty
    split at e
    ·rename_i es hes
     obtain⟨ei,ed,ez,ek⟩:=ok.row hes;split at e
     ·rename_i m hm
      have hl:=srcLen_sound (P:=P) hm hy w;cases e
      have hc0:(Builtin.firstCells es.size 0 y).run P w= .ok #[] w:=by
       unfold srcLen at hm;split at hm
       ·obtain⟨b2,c2,rfl,_⟩:=hy.slicePart
        cases b2<;>simp[Builtin.firstCells,loadCells,loadCellsFrom]
       ·obtain⟨p2,c2,rfl,_⟩:=hy.inv_empty
        simp[Builtin.firstCells,loadCells,loadCellsFrom]
       ·obtain⟨B,rfl,_⟩:=hy.inv_str
        have:(B.extract 0 0).data= #[]:=by simp[ByteArray.data_extract]
        simp[Builtin.firstCells,this]
       ·cases hm
      refine⟨.int .i64 0,w,?_,J.refl hr,.int _ _⟩;subst hxe;simp[Builtin.copy_,ht,run_underlying k.und,hl,run_sizeOf ek,hc0,storeCells,goInt]
     ·cases e
    ·cases e
   ·cases e
  ·cases e
 ·cases e
theorem cap_sound (ok:EnvOk P E) {t:TypeId} {x:Value} {vx:CV} {n:Nat} (e:capV (E.ty t) vx=some n) (hx:VR ρ vx x) (tys:Array TypeId) (ht:tys[0]? =some t) (ty:TypeId):
  (Builtin.cap_ tys ty #[x]).run P w= .ok (.int .i64 n) w:=by
 unfold capV at e;split at e
 ·rename_i s hs
  obtain⟨i,d,z,k⟩:=ok.row hs;split at e
  ·rename_i el hk
   have hd:=kind_slice (k.kind.symm.trans hk);subst hd;split at e
   ·split at e
    ·cases e
     obtain⟨base,c',rfl,g1,g2,_⟩:=hx.slicePart;have:=g2 rfl;subst this;simp[Builtin.cap_,ht,run_underlying k.und,goInt]
    ·cases e
   ·cases e
  ·cases e
 ·cases e
theorem clear_sound (ok:EnvOk P E) (hr:HR ρ h w) {t ty:TypeId} {tys:Array TypeId} (ht:tys[0]? =some t) {x:Value} {vx:CV} (e:oClear E h (E.ty t) vx=some (v,h')) (hx:VR ρ vx x):
  ∃X w',(Builtin.clear_ tys ty #[x]).run P w= .ok X w'/\J ρ h w ρ h' w'/\VR ρ v X:=by
 unfold oClear at e;split at e
 ·rename_i s hs
  obtain⟨i,d,z,k⟩:=ok.row hs;split at e
  ·rename_i el hk
   have hd:=kind_slice (k.kind.symm.trans hk);subst hd;split at e
   ·cases e
    obtain⟨c',rfl,_⟩:=hx.inv_nilslice;exact⟨.tuple #[],w,by simp[Builtin.clear_,ht,run_underlying k.und],J.refl hr,VRs.tup (VRs.nil _)⟩
   ·cases e
    obtain⟨p,c',rfl,_⟩:=hx.inv_empty;exact⟨.tuple #[],w,by simp[Builtin.clear_,ht,run_underlying k.und],J.refl hr,VRs.tup (VRs.nil _)⟩
   ·rename_i p n c ex
    obtain⟨i0,off⟩:=p;obtain⟨kk,dd,c',hi,rfl,_⟩:=hx.inv_slice;split at e
    ·cases e
     exact⟨.tuple #[],w,by simp[Builtin.clear_,ht,run_underlying k.und],J.refl hr,VRs.tup (VRs.nil _)⟩
    ·rename_i n
     split at e
     ·rename_i es hes
      obtain⟨ei,ed,ez,ek⟩:=ok.row hes;obtain⟨c1,c2⟩:=consts_sound (ρ:=ρ) ek.cells;have hz:(zeroValue el).run P w= .ok ez w:=by simp[zeroValue,typeInfo,ek.info,ek.zero]
      split at e
      ·rename_i h2 hp
       cases e;obtain⟨w',s1,s2⟩:=putCells_sound (P:=P) hr hp hi (rep_sound c1 _) (rep_one c2 _);refine⟨.tuple #[],w',?_,s2,VRs.tup (VRs.nil _)⟩;have e1:∀n,(Builtin.zeroCells ez.cells n).toList=repV ez.cells.toList n:=λn=>range_arr ez.cells n ez.cells (λ_=>rfl);simp[Builtin.clear_,ht,run_underlying k.und,hz,e1,s1]
      ·cases e
     ·cases e
   ·cases e
  ·cases e
 ·cases e
theorem MapR.erase:∀(es:List ME) (ms:List MapEntry) (i:Nat),MapR ρ es ms->MapR ρ (eraseAt es i) (ms.eraseIdx i)
 |[],ms,i,r=>by rw[r.of_nil];exact⟨VRs.nil _,VRs.nil _,rfl⟩
 |e::es,ms,0,r=>by
  obtain⟨m,l,rfl,g1,g2,g3,g4⟩:=r.head;exact g4
 |e::es,ms,i+1,r=>by
  obtain⟨m,l,rfl,g1,g2,g3,g4⟩:=r.head;exact MapR.cons g1 g2 g3 (MapR.erase es l i g4)
theorem delete_sound (ok:EnvOk P E) (hr:HR ρ h w) {t ty:TypeId} {tys:Array TypeId} (ht:tys[0]? =some t) {x y:Value} {vx vy:CV} (e:oDelete E h (E.ty t) vx vy=some (v,h')) (hx:VR ρ vx x) (hy:VR ρ vy y):
  ∃X w',(Builtin.delete_ tys ty #[x,y]).run P w= .ok X w'/\J ρ h w ρ h' w'/\VR ρ v X:=by
 unfold oDelete at e;split at e
 ·rename_i s hs
  obtain⟨i,d,z,k⟩:=ok.row hs;split at e
  ·rename_i kt et hk
   have hd:=kind_map (k.kind.symm.trans hk);subst hd;split at e
   ·rename_i hko
    have hck:=λb=>key_check (P:=P) ok hko hy b w;split at e
    ·cases e
     obtain rfl:=hx.inv_nilmap;exact⟨.tuple #[],w,by simp[Builtin.delete_,ht,run_underlying k.und,hck],J.refl hr,VRs.tup (VRs.nil _)⟩
    ·rename_i r
     split at e
     ·rename_i es clock hb
      obtain⟨kk,ms,q1,q2,hmr,put⟩:=map_put hr hb hx;subst q1;split at e
      ·rename_i p hf
       cases e;obtain⟨e0,m,hrun,f3,f4,f5,f6,f7⟩:=find_run ok hko hy hf hmr w;refine⟨.tuple #[],_,?_,put _ (ms.eraseIdxIfInBounds p.1) clock ?_,VRs.tup (VRs.nil _)⟩
       ·simp[Builtin.delete_,ht,run_underlying k.und,hck,run_getMap (P:=P) q2,hrun,run_setMap (P:=P) q2]
       ·rw[Array.toList_eraseIdxIfInBounds]
        exact MapR.erase _ _ _ hmr
      ·rename_i hf
       cases e;have hrun:(Instr.findKey kt y ms.toList).run P w= .ok none w:=find_run ok hko hy hf hmr w;refine⟨.tuple #[],_,?_,put _ ms clock hmr,VRs.tup (VRs.nil _)⟩;simp[Builtin.delete_,ht,run_underlying k.und,hck,run_getMap (P:=P) q2,hrun,run_setMap (P:=P) q2]
      ·cases e
     ·cases e
    ·cases e
   ·cases e
  ·cases e
 ·cases e
theorem builtin_sound (ok:EnvOk P E) (hr:HR ρ h w) {b:Builtin} {args:Array Operand} {tys:Array TypeId} (ho:o.op= .call {callee:= .builtin b,args:=args,argTypes:=tys})
  (e:builtinV E h b tys.toList (args.toList.map f)=some (v,h')) (hx:∀x∈args.toList,VR ρ (f x) (a.eval x)):OpOk P o a ρ h w v h':=by
 have hl:=rel_list hx;have hmap:(args.map a.eval).toList=args.toList.map a.eval:=by rw[Array.toList_map]
 generalize args.toList.map f=vs at e hl;rw[<-hmap]at hl;unfold builtinV at e;split at e
 ·split at e
  ·rename_i t r htys
   have ht:tys[0]? =some t:=by rw[<-Array.getElem?_toList,htys];rfl
   split at e
   ·rename_i x
    obtain⟨e1,e2⟩:=withH_some e;simp only at e1 e2;subst e2
    obtain⟨n,hn,rfl⟩:∃n:Nat,lenV h' (E.ty t) x=some n/\v= .int .i64 (n:Int):=by
     unfold lenR at e1;split at e1
     ·rename_i n hn;cases e1;exact⟨n,hn,rfl⟩
     ·cases e1
    obtain⟨X,r2,hX,h1,h2⟩:=hl.head;have:=h2.of_nil;subst this;have hargs:args.map a.eval= #[X]:=by apply Array.ext';rw[hX]
    have hrun:=len_sound ok hr hn h1 tys ht o.type;refine .val hr (gives_builtin ho ?_) (.int _ _);rw[hargs];simp[builtin,hrun]
   ·cases e
  ·cases e
 ·split at e
  ·rename_i t t2 htys
   have htys:tys= #[t,t2]:=by apply Array.ext';rw[htys]
   split at e
   ·obtain⟨X,r2,hX,h1,h2⟩:=hl.head
    obtain⟨Y,r3,hY,h3,h4⟩:=h2.head;have:=h4.of_nil;subst this;subst hY;have hargs:args.map a.eval= #[X,Y]:=by apply Array.ext';rw[hX]
    obtain⟨Z,w',ρ',g1,g2,g3⟩:=append_sound (ty:=o.type) ok hr e h1 h3;refine⟨Z,w',ρ',.inl (gives_builtin ho ?_),g2,g3⟩;rw[hargs,htys];simp[builtin,g1]
   ·cases e
  ·cases e
 ·split at e
  ·rename_i t r htys
   have ht:tys[0]? =some t:=by rw[<-Array.getElem?_toList,htys];rfl
   split at e
   ·obtain⟨X,r2,hX,h1,h2⟩:=hl.head
    obtain⟨Y,r3,hY,h3,h4⟩:=h2.head;have:=h4.of_nil;subst this;subst hY;have hargs:args.map a.eval= #[X,Y]:=by apply Array.ext';rw[hX]
    obtain⟨Z,w',g1,g2,g3⟩:=copy_sound (ty:=o.type) ok hr ht e h1 h3;refine⟨Z,w',ρ,.inl (gives_builtin ho ?_),g2,g3⟩;rw[hargs];simp[builtin,g1]
   ·cases e
  ·cases e
 ·split at e
  ·obtain⟨e1,e2⟩:=withH_some e
   simp only at e1 e2;subst e2;obtain⟨X,r2,hX,h1,h2⟩:=hl.head;obtain⟨Z,g1,g2⟩:=fold_sound (P:=P) (w:=w) e1 h1 h2;refine .val hr (gives_builtin ho ?_) g2;have hX':List.map a.eval args.toList=X::r2:=by rw[<-Array.toList_map];exact hX
   simp only[if_true]at g1;simp[builtin,Builtin.max_,hX',g1]
  ·cases e
 ·split at e
  ·obtain⟨e1,e2⟩:=withH_some e
   simp only at e1 e2;subst e2;obtain⟨X,r2,hX,h1,h2⟩:=hl.head;obtain⟨Z,g1,g2⟩:=fold_sound (P:=P) (w:=w) e1 h1 h2;refine .val hr (gives_builtin ho ?_) g2;have hX':List.map a.eval args.toList=X::r2:=by rw[<-Array.toList_map];exact hX
   simp only[Bool.false_eq_true,if_false]at g1;simp[builtin,Builtin.min_,hX',g1]
  ·cases e
 ·split at e
  ·rename_i t r htys
   have ht:tys[0]? =some t:=by rw[<-Array.getElem?_toList,htys];rfl
   split at e
   ·rename_i x
    obtain⟨e1,e2⟩:=withH_some e;simp only at e1 e2;subst e2
    obtain⟨n,hn,rfl⟩:∃n:Nat,capV (E.ty t) x=some n/\v= .int .i64 (n:Int):=by
     unfold lenR at e1;split at e1
     ·rename_i n hn;cases e1;exact⟨n,hn,rfl⟩
     ·cases e1
    obtain⟨X,r2,hX,h1,h2⟩:=hl.head;have:=h2.of_nil;subst this;have hargs:args.map a.eval= #[X]:=by apply Array.ext';rw[hX]
    have hrun:=cap_sound (P:=P) (w:=w) ok hn h1 tys ht o.type;refine .val hr (gives_builtin ho ?_) (.int _ _);rw[hargs];simp[builtin,hrun]
   ·cases e
  ·cases e
 ·split at e
  ·rename_i t r htys
   have ht:tys[0]? =some t:=by rw[<-Array.getElem?_toList,htys];rfl
   split at e
   ·obtain⟨X,r2,hX,h1,h2⟩:=hl.head
    have:=h2.of_nil;subst this;have hargs:args.map a.eval= #[X]:=by apply Array.ext';rw[hX]
    obtain⟨Z,w',g1,g2,g3⟩:=clear_sound (ty:=o.type) ok hr ht e h1;refine⟨Z,w',ρ,.inl (gives_builtin ho ?_),g2,g3⟩;rw[hargs];simp[builtin,g1]
   ·cases e
  ·cases e
 ·split at e
  ·rename_i t r htys
   have ht:tys[0]? =some t:=by rw[<-Array.getElem?_toList,htys];rfl
   split at e
   ·obtain⟨X,r2,hX,h1,h2⟩:=hl.head
    obtain⟨Y,r3,hY,h3,h4⟩:=h2.head;have:=h4.of_nil;subst this hY;have hargs:args.map a.eval= #[X,Y]:=by apply Array.ext';rw[hX]
    obtain⟨Z,w',g1,g2,g3⟩:=delete_sound (ty:=o.type) ok hr ht e h1 h3;refine⟨Z,w',ρ,.inl (gives_builtin ho ?_),g2,g3⟩;rw[hargs];simp[builtin,g1]
   ·cases e
  ·cases e
 ·cases e
theorem op_sound (ok:EnvOk P E) (hr:HR ρ h w) (e:opVal E o.op f h=some (v,h')) (hx:∀x,x∈o.op.operands->VR ρ (f x) (a.eval x)):OpOk P o a ρ h w v h':=by
 have wh:∀{r:Option CV},withH h r=some (v,h')->r=some v/\h'=h:=λe=>withH_some e;unfold opVal at e;split at e
 ·rename_i x ho
  cases e;exact op_move ho hr (hx x (by simp[ho,Op.operands]))
 ·rename_i x ho
  cases e;exact op_assign ho hr (hx x (by simp[ho,Op.operands]))
 ·rename_i c x y ho
  exact op_pick ho hr e (hx c (by simp[ho,Op.operands])) (hx x (by simp[ho,Op.operands])) (hx y (by simp[ho,Op.operands]))
 ·rename_i t ho
  exact op_alloc ok ho hr e
 ·rename_i t x ho
  exact op_box ho hr e (hx x (by simp[ho,Op.operands]))
 ·rename_i t ps ho
  exact op_build ok ho hr e λx hx'=>hx x (by simpa[ho,Op.operands]using hx')
 ·rename_i t n ps ho
  exact op_buildSlice ok ho hr e λx hx'=>hx x (by simpa[ho,Op.operands]using hx')
 ·rename_i t x ho
  exact op_load ok ho hr e (hx x (by simp[ho,Op.operands]))
 ·rename_i t x y ho
  exact op_store ok ho hr e (hx x (by simp[ho,Op.operands])) (hx y (by simp[ho,Op.operands]))
 ·rename_i x ho
  exact op_nil ho hr e (hx x (by simp[ho,Op.operands]))
 ·rename_i op t x y yt ho
  obtain⟨e1,rfl⟩:=wh e;exact op_binop ok ho hr e1 (hx x (by simp[ho,Op.operands])) (hx y (by simp[ho,Op.operands]))
 ·rename_i op t x ho
  obtain⟨e1,rfl⟩:=wh e;exact op_unop ho hr e1 (hx x (by simp[ho,Op.operands]))
 ·rename_i s t x ho
  exact op_convert ok ho hr e (hx x (by simp[ho,Op.operands]))
 ·rename_i t x ho
  exact op_makeIface ok ho hr e (hx x (by simp[ho,Op.operands]))
 ·rename_i fn first caps ho
  cases e;exact op_makeFunc ho hr (λx h1=>hx x (by simp[ho,Op.operands];exact .inl (by simpa using h1))) λx h1=>hx x (by simp[ho,Op.operands];exact .inr (by simpa using h1))
 ·rename_i t ho
  cases e;exact op_makeMap ho hr
 ·rename_i t x y ho
  exact op_makeSlice ok ho hr e (hx x (by simp[ho,Op.operands])) (hx y (by simp[ho,Op.operands]))
 ·rename_i t x lo hi mx ho
  obtain⟨e1,rfl⟩:=wh e;exact op_slice ok ho hr e1 (hx x (by simp[ho,Op.operands])) (optR_map λy hy=>hx y (by subst hy;simp[ho,Op.operands])) (optR_map λy hy=>hx y (by subst hy;simp[ho,Op.operands])) (optR_map λy hy=>hx y (by subst hy;simp[ho,Op.operands]))
 ·rename_i t x fl ho
  exact op_fieldAddr ok ho hr e (hx x (by simp[ho,Op.operands]))
 ·rename_i t x fl ho
  exact op_field ok ho hr e (hx x (by simp[ho,Op.operands]))
 ·rename_i t x y ho
  exact op_indexAddr ok ho hr e (hx x (by simp[ho,Op.operands])) (hx y (by simp[ho,Op.operands]))
 ·rename_i t x y ho
  exact op_index ok ho hr e (hx x (by simp[ho,Op.operands])) (hx y (by simp[ho,Op.operands]))
 ·rename_i t x y cok ho
  obtain⟨e1,rfl⟩:=wh e;exact op_lookup ok ho hr e1 (hx x (by simp[ho,Op.operands])) (hx y (by simp[ho,Op.operands]))
 ·rename_i x xt ta cok ho
  exact op_assert ok ho hr e (hx x (by simp[ho,Op.operands]))
 ·rename_i x i ho
  obtain⟨e1,rfl⟩:=wh e;exact op_extract ho hr e1 (hx x (by simp[ho,Op.operands]))
 ·rename_i t x y z ho
  exact op_mapUpd ok (.inl ho) hr e (hx x (by simp[ho,Op.operands])) (hx y (by simp[ho,Op.operands])) (hx z (by simp[ho,Op.operands]))
 ·rename_i t x y z ho
  exact op_mapUpd ok (.inr ho) hr e (hx x (by simp[ho,Op.operands])) (hx y (by simp[ho,Op.operands])) (hx z (by simp[ho,Op.operands]))
 ·rename_i t x y ho
  exact op_mapEntry ok ho hr e (hx x (by simp[ho,Op.operands])) (hx y (by simp[ho,Op.operands]))
 ·rename_i t x y z ho
  exact op_entryStore ho hr e (hx x (by simp[ho,Op.operands])) (hx y (by simp[ho,Op.operands])) (hx z (by simp[ho,Op.operands]))
 ·cases e
end
end Go.CM
