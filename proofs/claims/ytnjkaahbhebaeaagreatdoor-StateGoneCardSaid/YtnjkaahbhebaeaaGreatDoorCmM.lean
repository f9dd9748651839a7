/- Builtins. No condition. -/
import Derived.Test.YtnjkaahbhebaeaaGreatDoorCmL
set_option linter.unusedVariables false
set_option linter.unusedSimpArgs false
noncomputable section
namespace Go.CM
section
variable {P:Program} {E:Env} {o:Oper} {a:Act} {ρ:Rho} {h h':Heap} {w:World} {v:CV} {f:Operand->CV}
theorem gives_builtin {b:Builtin} {args:Array Operand} {tys:Array TypeId} {X:Value} {w':World} (ho:o.op= .call {callee:= .builtin b,args:=args,argTypes:=tys})
  (h:(builtin b tys o.type (args.map λ| .const _=>true|_=>false) (args.map a.eval)).run P w= .ok (.value X) w'):(execOp a.eval o).run P w= .ok (.value X) w':=by
 unfold execOp;simp only[ho,resolve,invoke,Sem.run_bind,Sem.run_pure,Result.andThen_ok];exact h
theorem len_sound (ok:EnvOk P E) (hr:HR ρ h w) {t:TypeId} {x:Value} {vx:CV} {n:Nat} (e:lenV h (E.ty t) vx=some n) (hx:VR ρ vx x) (tys:Array TypeId) (ht:tys[0]? =some t) (ty:TypeId):
  (Builtin.len_ tys ty #[x]).run P w= .ok (.int .i64 n) w:=by
 unfold lenV at e;split at e
 ·rename_i s hs
  obtain⟨i,d,z,k⟩:=ok.row hs;split at e
  ·rename_i hk
   have hd:=kind_string (k.kind.symm.trans hk);subst hd;split at e
   ·cases e
    obtain⟨B,rfl,rfl⟩:=hx.inv_str;have:B.size=len B.data.toList:=by rw[len_eq];simp
    simp[Builtin.len_,ht,run_underlying k.und,goInt,this]
   ·cases e
  ·rename_i el hk
   have hd:=kind_slice (k.kind.symm.trans hk);subst hd;split at e
   ·rename_i p n2 c2 x2
    cases e;obtain⟨base,c',rfl,_⟩:=hx.slicePart;simp[Builtin.len_,ht,run_underlying k.und,goInt]
   ·cases e
    obtain⟨p,c',rfl,_⟩:=hx.inv_empty;simp[Builtin.len_,ht,run_underlying k.und,goInt]
   ·cases e
  ·rename_i n2 el hk
   have hd:=kind_array (k.kind.symm.trans hk);subst hd;cases e;simp[Builtin.len_,ht,run_underlying k.und,goInt]
  ·rename_i a1 b1 hk
   have hd:=kind_map (k.kind.symm.trans hk);subst hd;split at e
   ·cases e
    rw[hx.inv_nilmap];simp[Builtin.len_,ht,run_underlying k.und,goInt]
   ·rename_i r
    split at e
    ·rename_i es clock hb
     cases e;obtain⟨k2,hi,rfl⟩:=hx.inv_map;obtain⟨k',d',hi',hd0,ms,g1,g2,g3,g4⟩:=hr.blk r _ hb;rw[hi]at hi';cases hi'
     have hl:ms.size=len es:=by
      rw[len_eq];have:=g2.1;simpa using this
     simp[Builtin.len_,ht,run_underlying k.und,run_getMap (P:=P) g1,goInt,hl]
    ·cases e
   ·cases e
  ·cases e
 ·cases e
theorem srcLen_sound {x:Value} {vx:CV} {n:Nat} (e:srcLen vx=some n) (hx:VR ρ vx x) (w:World):(Builtin.lenOf x).run P w= .ok n w:=by
 unfold srcLen at e;split at e
 ·cases e
  obtain⟨base,c',rfl,_⟩:=hx.slicePart;simp[Builtin.lenOf]
 ·cases e
  obtain⟨p,c',rfl,_⟩:=hx.inv_empty;simp[Builtin.lenOf]
 ·cases e
  obtain⟨B,rfl,rfl⟩:=hx.inv_str;have:B.size=len B.data.toList:=by rw[len_eq];simp
  simp[Builtin.lenOf,this]
 ·cases e
theorem src_sound (hr:HR ρ h w) {z n:Nat} {x:Value} {vx:CV} {cs:List CV} (e:srcCells h z n vx=some cs) (hx:VR ρ vx x):
  ∃news:List Value,(∀w':World,w'.heap=w.heap->(Builtin.firstCells z n x).run P w'= .ok news.toArray w')/\VRs ρ cs news/\(∀c∈cs,c.one=true)/\cs.length=n*z:=by
 unfold srcCells at e;split at e
 ·split at e
  ·cases e
   obtain⟨c',rfl,_⟩:=hx.inv_nilslice;exact⟨[],λw' _=>by simp[Builtin.firstCells],VRs.nil _,(λc hc=>by cases hc),by simp⟩
  ·cases e
 ·rename_i p n2 c2 x2
  obtain⟨i,off⟩:=p;obtain⟨k,d,c',hi,rfl,_⟩:=hx.inv_slice;split at e
  ·cases e
   exact⟨[],λw' _=>by simp[Builtin.firstCells,loadCells,loadCellsFrom],VRs.nil _,(λc hc=>by cases hc),by simp⟩
  ·rename_i n
   split at e
   ·rename_i cs0 ro hb
    rw[cut_eq]at e;split at e
    ·rename_i hle
     simp only[Nat.succ_eq_add_one]at hle;cases e;obtain⟨k',d',hi',hrel⟩:=hr.blk i _ hb;rw[hi]at hi';cases hi';obtain⟨arr,ty,fz,g1,g2,g3,g4,g5⟩:=hrel;have hv:=(g3.drop off).take ((n+1)*z);generalize hxs:((List.take cs0.length (arr.toList.drop d)).drop off).take ((n+1)*z)=xs at hv
     have hcl:(List.take ((n+1)*z) (List.drop off cs0)).length=(n+1)*z:=by
      simp only[List.length_take,List.length_drop];omega
     refine⟨xs,λw' hw=> ?_,hv,λc hc=>g4 c (List.mem_of_mem_drop (List.mem_of_mem_take hc)),hcl⟩;have hxl:xs.length=(n+1)*z:=by rw[hv.1,hcl]
     refine run_firstCells_some (P:=P) w' z (n+1) (mk k (d+off)) n2 c' xs hxl λj y hy=> ?_;obtain⟨hj,_⟩:=List.getElem?_eq_some_iff.1 hy;rw[mk_add];simp only[World.cell?,mk,hw,g1,Option.isSome_none,Bool.false_eq_true,if_false];rw[<-hy,<-hxs,List.getElem?_take (l:=List.drop off _),if_pos (by omega),List.getElem?_drop,List.getElem?_take,if_pos (by omega),List.getElem?_drop,<-Array.getElem?_toList]
     congr 1;omega
    ·cases e
   ·cases e
 ·split at e
  ·cases e
   obtain⟨p,c',rfl,_⟩:=hx.inv_empty;exact⟨[],λw' _=>by simp[Builtin.firstCells,loadCells,loadCellsFrom],VRs.nil _,(λc hc=>by cases hc),by simp⟩
  ·cases e
 ·split at e
  ·rename_i b
   obtain⟨B,rfl,rfl⟩:=hx.inv_str;rw[takeN_eq]at e;split at e
   ·rename_i hle
    simp only[Option.map_some,Option.some.injEq]at e;subst e;refine⟨(B.data.toList.take n).map λb=>Value.int .u8 b.toNat,λw' _=> ?_,?_,?_,by rw[List.length_map,List.length_take,Nat.min_eq_left hle,Nat.mul_one]⟩
    ·have:((B.extract 0 n).data.map λb=>Value.int .u8 b.toNat)=((B.data.toList.take n).map λb=>Value.int .u8 b.toNat).toArray:=by
       apply Array.ext';simp[ByteArray.data_extract]
     simp only[Builtin.firstCells,Sem.run_pure,this]
    ·generalize B.data.toList.take n=l
     induction l with
     |nil=>exact VRs.nil _
     |cons b l ih=>exact VRs.cons (.int _ _) ih
    ·intro c hc
     obtain⟨b,_,rfl⟩:=List.mem_map.1 hc;rfl
   ·cases e
  ·cases e
 ·cases e
section
variable {t t2 ty e:TypeId} {i:TypeInfo} {d2:TypeDesc} {x:Value} {m:Nat} {news:List Value}
theorem notInt (hd2:∀k,d2≠ .int k):(match d2 with| .int _=>true|_=>false)=false:=by
 cases d2<;>first|rfl|exact absurd rfl (hd2 _)
theorem run_append_in (ht:P.underlying t=some (.slice e)) (hi:P.info? e=some i) (h2:P.underlying t2=some d2) (hd2:∀k,d2≠ .int k) (hl:(Builtin.lenOf x).run P w= .ok m w)
  (hf:(Builtin.firstCells i.size m x).run P w= .ok news.toArray w) {ad:Addr} {n c:Nat} (hroom:n+m<=c) {w':World} (hst:(storeCells (ad.add (n*i.size)) news).run P w= .ok () w'):
  (Builtin.append_ #[t,t2] ty #[.slice (some ad) n c,x]).run P w= .ok (.slice (some ad) (n+m) c) w':=by
 have hm:=notInt hd2;simp[Builtin.append_,run_underlying ht,run_underlying h2,hm,sizeOf,typeInfo,hi,hl,hroom,hf,hst]
theorem run_append_nil' (ht:P.underlying t=some (.slice e)) (hi:P.info? e=some i) (h2:P.underlying t2=some d2) (hd2:∀k,d2≠ .int k) (hl:(Builtin.lenOf x).run P w= .ok m w)
  (hf:(Builtin.firstCells i.size m x).run P w= .ok news.toArray w) {n c:Nat} (hroom:n+m<=c):
  (Builtin.append_ #[t,t2] ty #[.slice none n c,x]).run P w= .ok (.slice none (n+m) c) w:=by
 have hm:=notInt hd2;simp[Builtin.append_,run_underlying ht,run_underlying h2,hm,sizeOf,typeInfo,hi,hl,hroom,hf]
theorem run_append_grow (ht:P.underlying t=some (.slice e)) (hi:P.info? e=some i) {z:Value} (hz:i.zero=some z) (h2:P.underlying t2=some d2) (hd2:∀k,d2≠ .int k) {a:Option Addr} {n c:Nat} {olds:List Value}
  (hold:∀w':World,w'.heap=w.heap->(Builtin.firstCells i.size n (.slice a n c)).run P w'= .ok olds.toArray w') (hl:(Builtin.lenOf x).run P w= .ok m w)
  (hf:∀w':World,w'.heap=w.heap->(Builtin.firstCells i.size m x).run P w'= .ok news.toArray w')
  (hg:c<n+m) (h63:n+m<=9223372036854775807) (hfit:(n+m)*i.bytes<=140737488355328):
  (Builtin.append_ #[t,t2] ty #[.slice a n c,x]).run P w= .ok (.slice (some (mk w.heap.size 0)) (n+m) (grownCap w (n+m) c e))
   (w.drew.alloc (.cells (olds.toArray++(news.toArray++Builtin.zeroCells z.cells (grownCap w (n+m) c e-(n+m)))) e)):=by
 have hm:=notInt hd2;have hfit:=growslice_fits (old:=c) hg hfit;have hn:¬(n+m<=c):=by omega
 have h63':¬(9223372036854775807<((n:Int)+(m:Int))):=by omega
 have h48':¬(281474976710656<Builtin.nextslicecap (n+m) c*i.bytes):=by omega
 have hf:=hf w.drew rfl;have ho:=hold w.drew rfl;simp[Builtin.append_,run_underlying ht,run_underlying h2,hm,sizeOf,typeInfo,zeroValue,hi,hz,hl,hn,h63',h48',Question.forced,ho,hf,newRow,grownCap,mk]
end
theorem run_append_zero {t t2 ty e:TypeId} {i:TypeInfo} (ht:P.underlying t=some (.slice e)) (hi:P.info? e=some i) {z:Value} (hz:i.zero=some z) {kk:IntKind} (h2:P.underlying t2=some (.int kk)) {m:Nat} (h0:i.size≠0) (hm:m<=1048576)
  (hg:0<m) (hfit:m*i.bytes<=140737488355328):
  (Builtin.append_ #[t,t2] ty #[.slice none 0 0,.int .i64 m]).run P w= .ok (.slice (some (mk w.heap.size 0)) m (grownCap w m 0 e))
   (w.drew.alloc (.cells (Builtin.zeroCells z.cells m++Builtin.zeroCells z.cells (grownCap w m 0 e-m)) e)):=by
 have hfit2:=growslice_fits (old:=0) hg hfit;have hw:IntKind.i64.wrap (m:Int)=m:=IntWalk.i64_in _ (by omega);have hn:¬m=0:=by omega
 have hl:¬((m:Int)<0):=by omega
 have h48:¬(281474976710656<(m:Int)*(i.bytes:Int)):=by
  have:((m*i.bytes:Nat):Int)<=((140737488355328:Nat):Int):=Int.ofNat_le.2 hfit;rw[Int.natCast_mul]at this;omega
 have h63':¬(9223372036854775807<(m:Int)):=by omega
 have h48':¬(281474976710656<Builtin.nextslicecap m 0*i.bytes):=by omega
 simp[Builtin.append_,run_underlying ht,run_underlying h2,asInt,asIntOf,hw,hl,h48,sizeOf,typeInfo,zeroValue,hi,hz,hn,h0,h63',h48',Question.forced,Builtin.firstCells,newRow,grownCap,mk];intro hc;rcases Nat.mul_eq_zero.1 hc with hc|hc
 ·exact absurd hc hn
 ·exact absurd hc h0
theorem append0_sound (ok:EnvOk P E) (hr:HR ρ h w) {t t2 ty el:TypeId} {es:TyS} {d2:TypeDesc} {kk:IntKind} (ht:P.underlying t=some (.slice el)) (hes:E.ty el=some es) (h2:P.underlying t2=some (.int kk)) (hz0:es.size≠0) {x y:Value} {vx vy:CV}
  (e:oAppend0 h es vx vy=some (v,h')) (hx:VR ρ vx x) (hy:VR ρ vy y):∃X w' ρ',(Builtin.append_ #[t,t2] ty #[x,y]).run P w= .ok X w'/\J ρ h w ρ' h' w'/\VR ρ' v X:=by
 obtain⟨ei,ed,ez,ek⟩:=ok.row hes;unfold oAppend0 at e;split at e
 ·split at e
  ·split at e
   ·split at e
    ·split at e
     ·rename_i m
      split at e
      ·cases e
      ·rename_i m
       split at e
       ·rename_i hb
        cases e;simp only[Bool.and_eq_true]at hb;have hb1:=Nat.le_of_ble_eq_true hb.1;have hb2:=Nat.le_of_ble_eq_true hb.2;obtain⟨c',rfl,g1,g2,g3,g4⟩:=hx.inv_nilslice;have hc:=g2 rfl;subst hc;have hye:=hy.inv_int;subst hye;have hsize:ei.size=es.size:=ek.size.symm;have hbytes:ei.bytes=es.bytes:=ek.bytes.symm;have hrun:=run_append_zero (w:=w) (ty:=ty) ht ek.info ek.zero h2 (m:=m+1) (by rw[hsize];exact hz0) hb1 (by omega) (by rw[hbytes];omega);generalize hcv:grownCap w (m+1) 0 el=nc at hrun;have hge:m+1<=nc:=by rw[<-hcv];exact grownCap_ge _ _ _ _
        have hnm:nc<=maxLen:=by rw[<-hcv];exact grownCap_le_maxLen _ _ _ _ (by unfold maxLen;omega)
        have hnm:nc<=9223372036854775807:=by unfold maxLen at hnm;omega
        obtain⟨c1,c2⟩:=consts_sound (ρ:=ρ) ek.cells
        have hzs:ez.cells.size=es.size:=by
         have h3:=c1.1;have h4:=ek.len;have h5:=ek.size;simp only[Array.length_toList]at h3;omega
        have e1:∀n,(Builtin.zeroCells ez.cells n).toList=repV ez.cells.toList n:=λn=>range_arr ez.cells n ez.cells (λ_=>rfl);have hv0:=rep_sound c1 (m+1)
        have hrl:(rep es.zero (m+1)).length=(m+1)*es.size:=by
         rw[rep_length,ek.len,ek.size]
        have hsizea:(Builtin.zeroCells ez.cells (m+1)++Builtin.zeroCells ez.cells (nc-(m+1))).size=nc*es.size:=by
         simp only[Array.size_append,size_zeroCells,hzs,<-Nat.add_mul]
         congr 1;omega
        refine⟨_,_,upd ρ h.next (w.heap.size,0) (nc*es.size),hrun,?_,?_⟩
        ·refine J.new hr (nc*es.size) rfl rfl (by rw[World.size_alloc];exact Nat.lt_succ_self _) (λq hq=>heap_alloc_old w.drew _ q hq) ?_
         refine⟨_,el,(0,0),heap_alloc_new w.drew _,⟨?_,by rw[hsizea];omega⟩,?_,?_,λ_=>rfl⟩
         ·rw[hsizea,hrl,Nat.zero_add]
          exact Nat.mul_le_mul_right _ hge
         ·have hv:=hv0.mono (hr.sub (w.heap.size,0) (nc*es.size))
          have e3:((Builtin.zeroCells ez.cells (m+1)++Builtin.zeroCells ez.cells (nc-(m+1))).toList.drop 0).take (rep es.zero (m+1)).length=repV ez.cells.toList (m+1):=by
           rw[List.drop_zero,<-hv.1];simp only[Array.toList_append,e1];rw[List.take_append_of_le_length (by simp),List.take_of_length_le (by simp)]
          rw[e3];exact hv
         ·exact rep_one c2 (m+1)
        ·have:=VR.slice (ρ:=upd ρ h.next (w.heap.size,0) (nc*es.size)) h.next 0 (m+1) (m+1) es.size w.heap.size 0 nc (upd_same _ _ _ _) hge (λe0=>absurd e0 hz0) (λ_=>by rw[upd_room];omega) (Nat.le_refl _) hnm
         simpa using this
       ·cases e
     ·cases e
    ·cases e
   ·cases e
  ·cases e
 ·cases e
theorem append_sound (ok:EnvOk P E) (hr:HR ρ h w) {t t2 ty:TypeId} {x y:Value} {vx vy:CV} (e:oAppend E h (E.ty t) (E.ty t2) vx vy=some (v,h')) (hx:VR ρ vx x) (hy:VR ρ vy y):
  ∃X w' ρ',(Builtin.append_ #[t,t2] ty #[x,y]).run P w= .ok X w'/\J ρ h w ρ' h' w'/\VR ρ' v X:=by
 unfold oAppend at e;split at e
 ·rename_i s hs
  obtain⟨i,d,z,k⟩:=ok.row hs;split at e
  ·rename_i el hk
   have hd:=kind_slice (k.kind.symm.trans hk);subst hd;split at e
   ·rename_i base n cap ex
    split at e
    ·rename_i es hes
     obtain⟨ei,ed,ez,ek⟩:=ok.row hes;split at e
     ·cases e
     ·rename_i hsz
      simp only[Bool.or_eq_false_iff]at hsz;have hz0:es.size≠0:=by intro e0;rw[e0]at hsz;simp at hsz
      have hb0:es.bytes≠0:=by intro e0;rw[e0]at hsz;simp at hsz
      split at e
      ·rename_i s2 hs2
       obtain⟨i2,d2,z2,k2⟩:=ok.row hs2;split at e
       ·rename_i kk hk2
        have hd2:=kind_int (k2.kind.symm.trans hk2);subst hd2;exact append0_sound (d2:= .int kk) ok hr k.und hes k2.und hz0 e hx hy
       ·rename_i hk2
        have hd2:∀kk,d2≠ .int kk:=by
         intro kk e2;subst e2;exact hk2 kk k2.kind
        split at e
        ·rename_i m hm
         have hl:=λw=>srcLen_sound (P:=P) hm hy w;split at e
         ·rename_i new hnew
          obtain⟨news,n1,n2,n3,n4⟩:=src_sound (P:=P) hr hnew hy;have hsize:ei.size=es.size:=ek.size.symm;have hbytes:ei.bytes=es.bytes:=ek.bytes.symm;rw[<-hsize]at n1;have hnl:news.length=m*es.size:=by rw[n2.1,n4]
          unfold appendAt at e;split at e
          ·rename_i hle
           have hle:=Nat.le_of_ble_eq_true hle;split at e
           ·cases e
            obtain⟨c',rfl,g1,g2,g3,g4⟩:=hx.inv_nilslice;exact⟨_,w,ρ,run_append_nil' k.und ek.info k2.und hd2 (hl w) (n1 w rfl) (by omega),J.refl hr,.nilslice _ _ _ _ g1 g2 hle g4⟩
           ·rename_i p
            obtain⟨i0,off⟩:=p;obtain⟨kk,dd,c',hi,rfl,g1,g2,g3,g4,g5⟩:=hx.inv_slice;split at e
            ·cases e
             have hn0:news=[]:=List.eq_nil_of_length_eq_zero (by rw[hnl];simp);subst hn0;refine⟨_,w,ρ,run_append_in k.und ek.info k2.und hd2 (hl w) (n1 w rfl) (by omega) (w':=w) (by simp[storeCells]),J.refl hr,?_⟩;exact hx
            ·rename_i m
             split at e
             ·rename_i h2 hp
              cases e;obtain⟨w',s1,s2⟩:=putCells_sound (P:=P) hr hp hi n2 n3;refine⟨_,w',ρ,run_append_in k.und ek.info k2.und hd2 (hl w) (n1 w rfl) (by omega) (w':=w') ?_,s2,.slice _ _ _ _ _ _ _ _ hi g1 g2 g5 hle g4⟩;rw[mk_add,hsize,Nat.add_assoc];exact s1
             ·cases e
          ·rename_i hle
           have hle:cap<n+m:=by
            rcases Nat.lt_or_ge cap (n+m)with hh|hh
            ·exact hh
            ·rw[Nat.ble_eq_true_of_le hh]at hle;cases hle
           split at e
           ·rename_i hfit
            have hfit:=Nat.le_of_ble_eq_true hfit;have hfit':(n+m)*ei.bytes<=140737488355328:=by rw[hbytes];omega
            have h63:n+m<=9223372036854775807:=by
             have:=Nat.le_mul_of_pos_right (n+m) (Nat.pos_of_ne_zero hb0);omega
            split at e
            ·rename_i old hold
             obtain⟨olds,o1,o2,o3,o4⟩:=src_sound (P:=P) hr hold hx;have hol:olds.length=n*es.size:=by rw[o2.1,o4]
             obtain⟨bs,c',rfl,g1,g2,g3,g4,_g5,_g6⟩:=hx.slicePart;rw[<-hsize]at o1
             have hzs:ez.cells.size=es.size:=by
              have h3:=(consts_sound (ρ:=ρ) ek.cells).1.1;have h4:=ek.len;have h5:=ek.size;simp only[Array.length_toList]at h3;omega
             have fresh:∀h0:Heap,HR ρ h0 w->h0.next=h.next->c'<n+m->∃X w' ρ',(Builtin.append_ #[t,t2] ty #[.slice bs n c',y]).run P w= .ok X w'/\J ρ h0 w ρ' (h0.new (.cells (old++new) false)) w'/\
               VR ρ' (.slice (some (h.next,0)) (n+m) (n+m) es.size) X:=by
              intro h0 hr0 hnx hc;have hrun:=run_append_grow (ty:=ty) k.und ek.info ek.zero k2.und hd2 o1 (hl w) n1 hc h63 hfit';generalize hcv:grownCap w (n+m) c' el=nc at hrun;have hge:n+m<=nc:=by rw[<-hcv];exact grownCap_ge _ _ _ _
              have hnm:nc<=maxLen:=by rw[<-hcv];exact grownCap_le_maxLen _ _ _ _ (by unfold maxLen;omega)
              have hnm:nc<=9223372036854775807:=by unfold maxLen at hnm;omega
              have hsizea:(olds.toArray++(news.toArray++Builtin.zeroCells ez.cells (nc-(n+m)))).size=nc*es.size:=by
               simp only[Array.size_append,List.size_toArray,size_zeroCells,hol,hnl,hzs,<-Nat.add_mul]
               congr 1;omega
              refine⟨_,_,upd ρ h.next (w.heap.size,0) (nc*es.size),hrun,?_,?_⟩
              ·rw[<-hnx]
               refine J.new hr0 (nc*es.size) rfl rfl (by rw[World.size_alloc];exact Nat.lt_succ_self _) (λq hq=>heap_alloc_old w.drew _ q hq) ?_;refine⟨_,el,(0,0),heap_alloc_new w.drew _,⟨?_,by rw[hsizea];omega⟩,?_,?_,λ_=>rfl⟩
               ·rw[hsizea,List.length_append,o4,n4,<-Nat.add_mul,Nat.zero_add]
                exact Nat.mul_le_mul_right _ hge
               ·have hv:=(o2.append n2).mono (hr0.sub (w.heap.size,0) (nc*es.size))
                have e3:((olds.toArray++(news.toArray++Builtin.zeroCells ez.cells (nc-(n+m)))).toList.drop 0).take (old++new).length=olds++news:=by
                 rw[List.drop_zero,<-hv.1];simp only[Array.toList_append,List.length_append];rw[<-List.append_assoc,List.take_append_of_le_length (by simp),List.take_of_length_le (by simp)]
                rw[e3];exact hv
               ·intro q hq
                rcases List.mem_append.1 hq with hq|hq
                ·exact o3 q hq
                ·exact n3 q hq
              ·have:=VR.slice (ρ:=upd ρ h.next (w.heap.size,0) (nc*es.size)) h.next 0 (n+m) (n+m) es.size w.heap.size 0 nc (upd_same _ _ _ _) hge (λe0=>absurd e0 hz0) (λ_=>by rw[upd_room];omega) (Nat.le_refl _) hnm
               simpa using this
             unfold growTo at e;split at e
             ·cases e
              have hc:c'=cap:=g2 rfl;obtain⟨X,w',ρ',f1,f2,f3⟩:=fresh h hr rfl (by omega);exact⟨X,w',ρ',f1,f2,f3⟩
             ·rename_i y0
              split at e
              ·rename_i p
               split at e
               ·rename_i hexz
                have hexz:=Nat.eq_of_beq_eq_true hexz;split at e
                ·rename_i cs0 hb
                 cases e;obtain⟨i0,off⟩:=p;obtain⟨kk,dd,c2,hi,hbs,_,_,_,_,groom⟩:=hx.inv_slice
                 have hcc:c2=c'/\bs=some (mk kk (dd+off)):=by
                  simp only[Value.slice.injEq]at hbs;exact⟨hbs.2.2.symm,hbs.1⟩
                 obtain⟨rfl,rfl⟩:=hcc;have groom:=groom (by omega);rw[hexz]at groom;by_cases hc:n+m<=c2
                 ·
                  obtain⟨k',d',hi',hrel⟩:=hr.blk i0 _ hb;rw[hi]at hi';cases hi';obtain⟨arr,ty0,fz,a1,a2,a3,a4,a5⟩:=hrel;have a5:=a5 rfl;subst a5;have hcm:(n+m)*es.size<=c2*es.size:=Nat.mul_le_mul_right _ hc
                  have hone:∀q∈news,q.oneCell'=true:=by
                   intro q hq;obtain⟨j,hj,rfl⟩:=List.getElem_of_mem hq;have hj2:j<new.length:=by rw[<-n2.1];exact hj
                   have:=n2.2 j hj2;have e1:new.getD j .undef=new[j]:=by simp[List.getD_eq_getElem?_getD,hj2]
                   have e2:news.getD j undef=news[j]:=by simp[List.getD_eq_getElem?_getD,hj]
                   rw[e1,e2]at this;exact this.oneCell (n3 _ (List.getElem_mem hj2))
                  have hmul:(n+m)*es.size=n*es.size+m*es.size:=Nat.add_mul _ _ _;have hst:=run_storeCells_at (P:=P) kk (dd+off+n*es.size) ty0 news 0 arr w a1 (by omega) hone;simp only[Nat.add_zero]at hst;generalize harr':(arr.toList.take (dd+off+n*es.size)++news++arr.toList.drop (dd+off+n*es.size+news.length)).toArray=arr' at hst;refine⟨_,w.setRow kk arr',upd ρ h.next (kk,dd+off) (ρ.room i0-off),run_append_in (ty:=ty) k.und ek.info k2.und hd2 (hl w) (n1 w rfl) hc (by rw[mk_add,hsize];exact hst),J.move hr (ρ.room i0-off) hb rfl hi rfl rfl (by simp) (λq hq=>setRow_other w kk q _ hq) ?_,?_⟩
                  ·refine⟨_,ty0,(0,0),setRow_heap w kk arr _ ty0 _ a1,⟨?_,?_⟩,?_,?_,λ_=>rfl⟩
                   ·rw[<-harr'];simp;omega
                   ·rw[<-harr'];simp;omega
                   ·have hv:=(o2.append n2).mono (hr.sub (kk,dd+off) (ρ.room i0-off))
                    have hold2:olds=(arr.toList.drop (dd+off)).take (n*es.size):=by
                     have h1:=o1 w rfl
                     have hf:∀j,j<n*es.size->w.cell? ((mk kk (dd+off)).add j)=some ((arr.toList.drop (dd+off)).getD j undef):=by
                      intro j hj;have hja:dd+off+j<arr.size:=by omega
                      rw[mk_add];simp[World.cell?,mk,a1,hja,List.getD_eq_getElem?_getD]
                     have h2:=run_loadCells (P:=P) w (mk kk (dd+off)) (n*es.size) _ hf;simp only[Builtin.firstCells,hsize]at h1;rw[h2]at h1;simp only[Result.ok.injEq,and_true]at h1;have h3:=congrArg Array.toList h1;simp only at h3;rw[<-h3];apply List.ext_getElem
                     ·simp;omega
                     ·intro j q1 q2
                      have hja:dd+off+j<arr.size:=by simp at q1;omega
                      simp[List.getD_eq_getElem?_getD,hja]
                    have e3:List.take (old++new).length (List.drop (dd+off) (arr.toList.take (dd+off+n*es.size)++news++arr.toList.drop (dd+off+n*es.size+news.length)))=olds++news:=by
                     rw[hold2];have hal:arr.toList.length=arr.size:=by simp
                     have hnl2:new.length=news.length:=n2.1.symm;apply List.ext_getElem?;intro j;simp only[List.getElem?_take,List.getElem?_drop,List.getElem?_append,List.length_append,List.length_take,List.length_drop,Array.length_toList];repeat' split
                     all_goals first
                      |omega
                      |rfl
                      |(congr 1;omega)
                      |(symm;rw[List.getElem?_eq_none_iff];omega)
                      |(rw[List.getElem?_eq_none_iff];simp;omega)
                    rw[<-harr'];simp only[e3];exact hv
                   ·intro q hq
                    rcases List.mem_append.1 hq with hq|hq
                    ·exact o3 q hq
                    ·exact n3 q hq
                  ·have:=VR.slice (ρ:=upd ρ h.next (kk,dd+off) (ρ.room i0-off)) h.next 0 (n+m) (n+m) es.size kk (dd+off) c2 (upd_same _ _ _ _) hc (λe0=>absurd e0 hz0) (λ_=>by rw[upd_room];omega) (Nat.le_refl _) g4
                   simpa using this
                 ·have j1:=J.gone hr i0
                  obtain⟨X,w',ρ',f1,f2,f3⟩:=fresh (h.del i0) j1.hr rfl (by omega);exact⟨X,w',ρ',f1,j1.trans f2,f3⟩
                ·cases e
               ·cases e
              ·cases e
            ·cases e
           ·cases e
         ·cases e
        ·cases e
      ·cases e
    ·cases e
   ·cases e
  ·cases e
 ·cases e
end
end Go.CM
