/- The plain data of timetables, and what cells say of them. No condition, no program. (Printed by gs.py.) -/
import Derived.Test.YtfheibkikpefkaaGreatDoorXT
set_option linter.unusedVariables false
set_option linter.unusedSimpArgs false
noncomputable section
namespace Go.CM.Tt
structure Times where
 frm:Int
 evr:Int
 len:Int
instance:DecidableEq Times:=λa b=>
 if h0:a.frm=b.frm then
 if h1:a.evr=b.evr then
 if h2:a.len=b.len then
  isTrue (by cases a;cases b;simp_all)
 else isFalse (λh=>h2 (by rw[h]))
 else isFalse (λh=>h1 (by rw[h]))
 else isFalse (λh=>h0 (by rw[h]))
def Times.enc (d:Times):List CV:=[.int .i64 d.frm,.int .i64 d.evr,.int .i64 d.len]
instance:Rp Times:=⟨3,λ_ cs d=>cs=d.enc,λ_ h=>h,λh=>by rw[h];rfl⟩
theorem Times.flat (h:Heap) (cs:List CV) (d:Times):Rp.R h cs d↔cs=d.enc:=Iff.rfl
instance:Flat Times:=⟨Times.enc,Times.flat⟩
structure PathS where
 name:Str
 a:Str
 b:Str
 len:Int
instance:DecidableEq PathS:=λa b=>
 if h0:a.name=b.name then
 if h1:a.a=b.a then
 if h2:a.b=b.b then
 if h3:a.len=b.len then
  isTrue (by cases a;cases b;simp_all)
 else isFalse (λh=>h3 (by rw[h]))
 else isFalse (λh=>h2 (by rw[h]))
 else isFalse (λh=>h1 (by rw[h]))
 else isFalse (λh=>h0 (by rw[h]))
def PathS.enc (d:PathS):List CV:=[.str d.name,.str d.a,.str d.b,.int .i64 d.len]
instance:Rp PathS:=⟨4,λ_ cs d=>cs=d.enc,λ_ h=>h,λh=>by rw[h];rfl⟩
theorem PathS.flat (h:Heap) (cs:List CV) (d:PathS):Rp.R h cs d↔cs=d.enc:=Iff.rfl
instance:Flat PathS:=⟨PathS.enc,PathS.flat⟩
structure DoorS where
 name:Str
 a:Str
 b:Str
 len:Int
 times:Times
instance:DecidableEq DoorS:=λa b=>
 if h0:a.name=b.name then
 if h1:a.a=b.a then
 if h2:a.b=b.b then
 if h3:a.len=b.len then
 if h4:a.times=b.times then
  isTrue (by cases a;cases b;simp_all)
 else isFalse (λh=>h4 (by rw[h]))
 else isFalse (λh=>h3 (by rw[h]))
 else isFalse (λh=>h2 (by rw[h]))
 else isFalse (λh=>h1 (by rw[h]))
 else isFalse (λh=>h0 (by rw[h]))
def DoorS.enc (d:DoorS):List CV:=[.str d.name,.str d.a,.str d.b,.int .i64 d.len,.int .i64 d.times.frm,.int .i64 d.times.evr,.int .i64 d.times.len]
instance:Rp DoorS:=⟨7,λ_ cs d=>cs=d.enc,λ_ h=>h,λh=>by rw[h];rfl⟩
theorem DoorS.flat (h:Heap) (cs:List CV) (d:DoorS):Rp.R h cs d↔cs=d.enc:=Iff.rfl
instance:Flat DoorS:=⟨DoorS.enc,DoorS.flat⟩
structure RouteS where
 name:Str
 stops:List Str
 rides:List Int
 stays:List Int
instance:DecidableEq RouteS:=λa b=>
 if h0:a.name=b.name then
 if h1:a.stops=b.stops then
 if h2:a.rides=b.rides then
 if h3:a.stays=b.stays then
  isTrue (by cases a;cases b;simp_all)
 else isFalse (λh=>h3 (by rw[h]))
 else isFalse (λh=>h2 (by rw[h]))
 else isFalse (λh=>h1 (by rw[h]))
 else isFalse (λh=>h0 (by rw[h]))
def RouteS.Cells (h:Heap) (cs:List CV) (d:RouteS):Prop:=∃v1 v2 v3,cs=[.str d.name,v1,v2,v3]/\Sl h v1 d.stops/\Sl h v2 d.rides/\Sl h v3 d.stays
instance:Rp RouteS:=⟨4,RouteS.Cells,λx ⟨v1,v2,v3,e,s1,s2,s3⟩=>⟨v1,v2,v3,e,s1.ext x,s2.ext x,s3.ext x⟩,λ⟨v1,v2,v3,e,_,_,_⟩=>by rw[e];rfl⟩
structure TripS where
 name:Str
 route:Str
 frm:Int
 evr:Int
 untl:Int
instance:DecidableEq TripS:=λa b=>
 if h0:a.name=b.name then
 if h1:a.route=b.route then
 if h2:a.frm=b.frm then
 if h3:a.evr=b.evr then
 if h4:a.untl=b.untl then
  isTrue (by cases a;cases b;simp_all)
 else isFalse (λh=>h4 (by rw[h]))
 else isFalse (λh=>h3 (by rw[h]))
 else isFalse (λh=>h2 (by rw[h]))
 else isFalse (λh=>h1 (by rw[h]))
 else isFalse (λh=>h0 (by rw[h]))
def TripS.enc (d:TripS):List CV:=[.str d.name,.str d.route,.int .i64 d.frm,.int .i64 d.evr,.int .i64 d.untl]
instance:Rp TripS:=⟨5,λ_ cs d=>cs=d.enc,λ_ h=>h,λh=>by rw[h];rfl⟩
theorem TripS.flat (h:Heap) (cs:List CV) (d:TripS):Rp.R h cs d↔cs=d.enc:=Iff.rfl
instance:Flat TripS:=⟨TripS.enc,TripS.flat⟩
structure HazS where
 name:Str
 on:Str
 times:Times
instance:DecidableEq HazS:=λa b=>
 if h0:a.name=b.name then
 if h1:a.on=b.on then
 if h2:a.times=b.times then
  isTrue (by cases a;cases b;simp_all)
 else isFalse (λh=>h2 (by rw[h]))
 else isFalse (λh=>h1 (by rw[h]))
 else isFalse (λh=>h0 (by rw[h]))
def HazS.enc (d:HazS):List CV:=[.str d.name,.str d.on,.int .i64 d.times.frm,.int .i64 d.times.evr,.int .i64 d.times.len]
instance:Rp HazS:=⟨5,λ_ cs d=>cs=d.enc,λ_ h=>h,λh=>by rw[h];rfl⟩
theorem HazS.flat (h:Heap) (cs:List CV) (d:HazS):Rp.R h cs d↔cs=d.enc:=Iff.rfl
instance:Flat HazS:=⟨HazS.enc,HazS.flat⟩
structure SheetD where
 hz:Int
 stops:List Str
 paths:List PathS
 doors:List DoorS
 routes:List RouteS
 trips:List TripS
 hazards:List HazS
instance:DecidableEq SheetD:=λa b=>
 if h0:a.hz=b.hz then
 if h1:a.stops=b.stops then
 if h2:a.paths=b.paths then
 if h3:a.doors=b.doors then
 if h4:a.routes=b.routes then
 if h5:a.trips=b.trips then
 if h6:a.hazards=b.hazards then
  isTrue (by cases a;cases b;simp_all)
 else isFalse (λh=>h6 (by rw[h]))
 else isFalse (λh=>h5 (by rw[h]))
 else isFalse (λh=>h4 (by rw[h]))
 else isFalse (λh=>h3 (by rw[h]))
 else isFalse (λh=>h2 (by rw[h]))
 else isFalse (λh=>h1 (by rw[h]))
 else isFalse (λh=>h0 (by rw[h]))
def SheetD.Cells (h:Heap) (cs:List CV) (d:SheetD):Prop:=∃v1 v2 v3 v4 v5 v6,cs=[.int .i64 d.hz,v1,v2,v3,v4,v5,v6]/\Sl h v1 d.stops/\Sl h v2 d.paths/\Sl h v3 d.doors/\Sl h v4 d.routes/\Sl h v5 d.trips/\Sl h v6 d.hazards
instance:Rp SheetD:=⟨7,SheetD.Cells,λx ⟨v1,v2,v3,v4,v5,v6,e,s1,s2,s3,s4,s5,s6⟩=>⟨v1,v2,v3,v4,v5,v6,e,s1.ext x,s2.ext x,s3.ext x,s4.ext x,s5.ext x,s6.ext x⟩,λ⟨v1,v2,v3,v4,v5,v6,e,_,_,_,_,_,_⟩=>by rw[e];rfl⟩
structure PathW where
 a:Int
 b:Int
 len:Int
instance:DecidableEq PathW:=λa b=>
 if h0:a.a=b.a then
 if h1:a.b=b.b then
 if h2:a.len=b.len then
  isTrue (by cases a;cases b;simp_all)
 else isFalse (λh=>h2 (by rw[h]))
 else isFalse (λh=>h1 (by rw[h]))
 else isFalse (λh=>h0 (by rw[h]))
def PathW.enc (d:PathW):List CV:=[.int .i64 d.a,.int .i64 d.b,.int .i64 d.len]
instance:Rp PathW:=⟨3,λ_ cs d=>cs=d.enc,λ_ h=>h,λh=>by rw[h];rfl⟩
theorem PathW.flat (h:Heap) (cs:List CV) (d:PathW):Rp.R h cs d↔cs=d.enc:=Iff.rfl
instance:Flat PathW:=⟨PathW.enc,PathW.flat⟩
structure DoorW where
 a:Int
 b:Int
 len:Int
 times:Times
instance:DecidableEq DoorW:=λa b=>
 if h0:a.a=b.a then
 if h1:a.b=b.b then
 if h2:a.len=b.len then
 if h3:a.times=b.times then
  isTrue (by cases a;cases b;simp_all)
 else isFalse (λh=>h3 (by rw[h]))
 else isFalse (λh=>h2 (by rw[h]))
 else isFalse (λh=>h1 (by rw[h]))
 else isFalse (λh=>h0 (by rw[h]))
def DoorW.enc (d:DoorW):List CV:=[.int .i64 d.a,.int .i64 d.b,.int .i64 d.len,.int .i64 d.times.frm,.int .i64 d.times.evr,.int .i64 d.times.len]
instance:Rp DoorW:=⟨6,λ_ cs d=>cs=d.enc,λ_ h=>h,λh=>by rw[h];rfl⟩
theorem DoorW.flat (h:Heap) (cs:List CV) (d:DoorW):Rp.R h cs d↔cs=d.enc:=Iff.rfl
instance:Flat DoorW:=⟨DoorW.enc,DoorW.flat⟩
structure RouteW where
 stops:List Int
 rides:List Int
 stays:List Int
instance:DecidableEq RouteW:=λa b=>
 if h0:a.stops=b.stops then
 if h1:a.rides=b.rides then
 if h2:a.stays=b.stays then
  isTrue (by cases a;cases b;simp_all)
 else isFalse (λh=>h2 (by rw[h]))
 else isFalse (λh=>h1 (by rw[h]))
 else isFalse (λh=>h0 (by rw[h]))
def RouteW.Cells (h:Heap) (cs:List CV) (d:RouteW):Prop:=∃v1 v2 v3,cs=[v1,v2,v3]/\Sl h v1 d.stops/\Sl h v2 d.rides/\Sl h v3 d.stays
instance:Rp RouteW:=⟨3,RouteW.Cells,λx ⟨v1,v2,v3,e,s1,s2,s3⟩=>⟨v1,v2,v3,e,s1.ext x,s2.ext x,s3.ext x⟩,λ⟨v1,v2,v3,e,_,_,_⟩=>by rw[e];rfl⟩
structure TripW where
 route:Int
 frm:Int
 evr:Int
 untl:Int
instance:DecidableEq TripW:=λa b=>
 if h0:a.route=b.route then
 if h1:a.frm=b.frm then
 if h2:a.evr=b.evr then
 if h3:a.untl=b.untl then
  isTrue (by cases a;cases b;simp_all)
 else isFalse (λh=>h3 (by rw[h]))
 else isFalse (λh=>h2 (by rw[h]))
 else isFalse (λh=>h1 (by rw[h]))
 else isFalse (λh=>h0 (by rw[h]))
def TripW.enc (d:TripW):List CV:=[.int .i64 d.route,.int .i64 d.frm,.int .i64 d.evr,.int .i64 d.untl]
instance:Rp TripW:=⟨4,λ_ cs d=>cs=d.enc,λ_ h=>h,λh=>by rw[h];rfl⟩
theorem TripW.flat (h:Heap) (cs:List CV) (d:TripW):Rp.R h cs d↔cs=d.enc:=Iff.rfl
instance:Flat TripW:=⟨TripW.enc,TripW.flat⟩
structure HazW where
 stop:Bool
 on:Int
 times:Times
instance:DecidableEq HazW:=λa b=>
 if h0:a.stop=b.stop then
 if h1:a.on=b.on then
 if h2:a.times=b.times then
  isTrue (by cases a;cases b;simp_all)
 else isFalse (λh=>h2 (by rw[h]))
 else isFalse (λh=>h1 (by rw[h]))
 else isFalse (λh=>h0 (by rw[h]))
def HazW.enc (d:HazW):List CV:=[.bool d.stop,.int .i64 d.on,.int .i64 d.times.frm,.int .i64 d.times.evr,.int .i64 d.times.len]
instance:Rp HazW:=⟨5,λ_ cs d=>cs=d.enc,λ_ h=>h,λh=>by rw[h];rfl⟩
theorem HazW.flat (h:Heap) (cs:List CV) (d:HazW):Rp.R h cs d↔cs=d.enc:=Iff.rfl
instance:Flat HazW:=⟨HazW.enc,HazW.flat⟩
structure NamesD where
 stops:List Str
 paths:List Str
 doors:List Str
 routes:List Str
 trips:List Str
 hazards:List Str
instance:DecidableEq NamesD:=λa b=>
 if h0:a.stops=b.stops then
 if h1:a.paths=b.paths then
 if h2:a.doors=b.doors then
 if h3:a.routes=b.routes then
 if h4:a.trips=b.trips then
 if h5:a.hazards=b.hazards then
  isTrue (by cases a;cases b;simp_all)
 else isFalse (λh=>h5 (by rw[h]))
 else isFalse (λh=>h4 (by rw[h]))
 else isFalse (λh=>h3 (by rw[h]))
 else isFalse (λh=>h2 (by rw[h]))
 else isFalse (λh=>h1 (by rw[h]))
 else isFalse (λh=>h0 (by rw[h]))
def NamesD.Cells (h:Heap) (cs:List CV) (d:NamesD):Prop:=∃v1 v2 v3 v4 v5 v6,cs=[v1,v2,v3,v4,v5,v6]/\Sl h v1 d.stops/\Sl h v2 d.paths/\Sl h v3 d.doors/\Sl h v4 d.routes/\Sl h v5 d.trips/\Sl h v6 d.hazards
instance:Rp NamesD:=⟨6,NamesD.Cells,λx ⟨v1,v2,v3,v4,v5,v6,e,s1,s2,s3,s4,s5,s6⟩=>⟨v1,v2,v3,v4,v5,v6,e,s1.ext x,s2.ext x,s3.ext x,s4.ext x,s5.ext x,s6.ext x⟩,λ⟨v1,v2,v3,v4,v5,v6,e,_,_,_,_,_,_⟩=>by rw[e];rfl⟩
structure WorldD where
 hz:Int
 names:NamesD
 paths:List PathW
 doors:List DoorW
 routes:List RouteW
 trips:List TripW
 hazards:List HazW
instance:DecidableEq WorldD:=λa b=>
 if h0:a.hz=b.hz then
 if h1:a.names=b.names then
 if h2:a.paths=b.paths then
 if h3:a.doors=b.doors then
 if h4:a.routes=b.routes then
 if h5:a.trips=b.trips then
 if h6:a.hazards=b.hazards then
  isTrue (by cases a;cases b;simp_all)
 else isFalse (λh=>h6 (by rw[h]))
 else isFalse (λh=>h5 (by rw[h]))
 else isFalse (λh=>h4 (by rw[h]))
 else isFalse (λh=>h3 (by rw[h]))
 else isFalse (λh=>h2 (by rw[h]))
 else isFalse (λh=>h1 (by rw[h]))
 else isFalse (λh=>h0 (by rw[h]))
def WorldD.Cells (h:Heap) (cs:List CV) (d:WorldD):Prop:=∃v1 v2 v3 v4 v5 v6 v7 v8 v9 v10 v11,cs=[.int .i64 d.hz,v1,v2,v3,v4,v5,v6,v7,v8,v9,v10,v11]/\Sl h v1 d.names.stops/\Sl h v2 d.names.paths/\Sl h v3 d.names.doors/\Sl h v4 d.names.routes/\Sl h v5 d.names.trips/\Sl h v6 d.names.hazards/\Sl h v7 d.paths/\Sl h v8 d.doors/\Sl h v9 d.routes/\Sl h v10 d.trips/\Sl h v11 d.hazards
instance:Rp WorldD:=⟨12,WorldD.Cells,λx ⟨v1,v2,v3,v4,v5,v6,v7,v8,v9,v10,v11,e,s1,s2,s3,s4,s5,s6,s7,s8,s9,s10,s11⟩=>⟨v1,v2,v3,v4,v5,v6,v7,v8,v9,v10,v11,e,s1.ext x,s2.ext x,s3.ext x,s4.ext x,s5.ext x,s6.ext x,s7.ext x,s8.ext x,s9.ext x,s10.ext x,s11.ext x⟩,λ⟨v1,v2,v3,v4,v5,v6,v7,v8,v9,v10,v11,e,_,_,_,_,_,_,_,_,_,_,_⟩=>by rw[e];rfl⟩
structure WrongD where
 err:Int
 kind:Int
 pos:Int
instance:DecidableEq WrongD:=λa b=>
 if h0:a.err=b.err then
 if h1:a.kind=b.kind then
 if h2:a.pos=b.pos then
  isTrue (by cases a;cases b;simp_all)
 else isFalse (λh=>h2 (by rw[h]))
 else isFalse (λh=>h1 (by rw[h]))
 else isFalse (λh=>h0 (by rw[h]))
def WrongD.enc (d:WrongD):List CV:=[.int .i64 d.err,.int .i64 d.kind,.int .i64 d.pos]
instance:Rp WrongD:=⟨3,λ_ cs d=>cs=d.enc,λ_ h=>h,λh=>by rw[h];rfl⟩
theorem WrongD.flat (h:Heap) (cs:List CV) (d:WrongD):Rp.R h cs d↔cs=d.enc:=Iff.rfl
instance:Flat WrongD:=⟨WrongD.enc,WrongD.flat⟩
structure WinD where
 frm:Int
 to:Int
instance:DecidableEq WinD:=λa b=>
 if h0:a.frm=b.frm then
 if h1:a.to=b.to then
  isTrue (by cases a;cases b;simp_all)
 else isFalse (λh=>h1 (by rw[h]))
 else isFalse (λh=>h0 (by rw[h]))
def WinD.enc (d:WinD):List CV:=[.int .i64 d.frm,.int .i64 d.to]
instance:Rp WinD:=⟨2,λ_ cs d=>cs=d.enc,λ_ h=>h,λh=>by rw[h];rfl⟩
theorem WinD.flat (h:Heap) (cs:List CV) (d:WinD):Rp.R h cs d↔cs=d.enc:=Iff.rfl
instance:Flat WinD:=⟨WinD.enc,WinD.flat⟩
end Go.CM.Tt

noncomputable section
namespace Go.CM.Tt
def Wrong0:WrongD:=⟨0,0,0⟩
def NamesD.none:NamesD:=⟨[],[],[],[],[],[]⟩
def WorldD.none:WorldD:=⟨0,NamesD.none,[],[],[],[],[]⟩
def classB (c:Nat):Int:=if 97<=c/\c<=122 then 1 else if 48<=c/\c<=57 then 2 else if c=45\/c=95 then 3 else 0
def reserved:List Str:=[[104,111,114,105,122,111,110],[115,116,111,112],[112,97,116,104],[100,111,111,114],[114,111,117,116,101],[116,114,105,112],[104,97,122,97,114,100],[102,114,111,109],[101,118,101,114,121],[111,112,101,110],[99,108,111,115,101,100],[111,102],[111,110],[117,110,116,105,108],[115,116,97,121]]
def NameOk (s:Str):Prop:=s≠[]/\s.length<=24/\(∀c,s[0]? =some c->classB c.toNat=1)/\s∉reserved/\∀c∈s,classB c.toNat≠0
def TickOk (t:Int):Prop:=0<=t/\t<=1099511627776
def SheetD.all (x:SheetD):List Str:=
 x.stops++(x.paths.flatMap λp=>[p.name,p.a,p.b])++(x.doors.flatMap λd=>[d.name,d.a,d.b])++(x.routes.flatMap λr=>r.name::r.stops)++(x.trips.flatMap λt=>[t.name,t.route])++(x.hazards.flatMap λh=>[h.name,h.on])
def Times.nums (t:Times):List Int:=[t.frm,t.evr,t.len]
def SheetD.nums (x:SheetD):List Int:=
 [x.hz]++(x.paths.map λp=>p.len)++(x.doors.flatMap λd=>d.len::d.times.nums)++(x.routes.flatMap λr=>r.rides++r.stays)++(x.trips.flatMap λt=>[t.frm,t.evr,t.untl])++(x.hazards.flatMap λh=>h.times.nums)
def RouteS.ok (r:RouteS):Prop:=2<=r.stops.length/\r.stops.length<=32/\r.rides.length+1=r.stops.length/\r.stays.length+2=r.stops.length
def SheetD.few (x:SheetD):Prop:=x.stops.length<=256/\x.paths.length<=1024/\x.doors.length<=256/\x.routes.length<=256/\x.trips.length<=1024/\x.hazards.length<=256
open Classical in
def SheetD.err (x:SheetD):Int:=
 if ¬x.few then 3 else if ¬∀s∈x.all,NameOk s then 7 else if ¬∀n∈x.nums,TickOk n then 9 else if ¬∀r∈x.routes,r.ok then 2 else 0
def place:List Str->Str->Int
 |[],_=> -1
 |a::l,s=>if a=s then 0 else if place l s<0 then -1 else place l s+1
def PathS.num (l:List Str) (p:PathS):PathW:=⟨place l p.a,place l p.b,p.len⟩
def DoorS.num (l:List Str) (d:DoorS):DoorW:=⟨place l d.a,place l d.b,d.len,d.times⟩
def RouteS.num (l:List Str) (r:RouteS):RouteW:=⟨r.stops.map (place l),r.rides,r.stays⟩
def TripS.num (l:List Str) (t:TripS):TripW:=⟨place l t.route,t.frm,t.evr,t.untl⟩
def HazS.num (l m:List Str) (h:HazS):HazW:=if 0<=place l h.on then⟨true,place l h.on,h.times⟩else⟨false,place m h.on,h.times⟩
def SheetD.names (x:SheetD):NamesD:=⟨x.stops,x.paths.map (·.name),x.doors.map (·.name),x.routes.map (·.name),x.trips.map (·.name),x.hazards.map (·.name)⟩
def SheetD.num (x:SheetD):WorldD:=
 ⟨x.hz,x.names,x.paths.map (·.num x.stops),x.doors.map (·.num x.stops),x.routes.map (·.num x.stops),x.trips.map (·.num x.names.routes),x.hazards.map (·.num x.stops x.names.paths)⟩
def NamesD.lists (n:NamesD):List (List Str):=[[],n.stops,n.paths,n.doors,n.routes,n.trips,n.hazards]
def dupIn (seen:List Str):List Str->Nat->Option Nat
 |[],_=>none
 |a::l,i=>if a∈seen then some i else dupIn (seen++[a]) l (i+1)
def dups (seen:List Str):List (List Str)->Int->Option WrongD
 |[],_=>none
 |l::r,k=>match dupIn seen l 0 with
  |some i=>some ⟨6,k,i⟩
  |none=>dups (seen++l) r (k+1)
def firstErr {α:Type} (f:α->Int):List α->Nat->Option (Int×Nat)
 |[],_=>none
 |a::l,i=>if f a=0 then firstErr f l (i+1)else some (f a,i)
def wayErr (a b n:Int):Int:=if a<0\/b<0 then 5 else if a=b\/n<1 then 2 else 0
def Times.ok (t:Times):Prop:=TickOk t.frm/\1<=t.len/\t.len<=1099511627776/\(t.evr=0\/(t.len<=t.evr/\t.evr<=1099511627776))
def countT (frm evr hz:Int):Int:=if hz<frm then 0 else if evr=0 then 1 else(hz-frm)/evr+1
open Classical in
def Times.err (t:Times) (hz:Int):Int:=if ¬t.ok then 2 else if ¬TickOk hz then 9 else if 256<countT t.frm t.evr hz then 3 else 0
def PathW.err (p:PathW):Int:=wayErr p.a p.b p.len
def DoorW.err (hz:Int) (d:DoorW):Int:=if wayErr d.a d.b d.len=0 then d.times.err hz else wayErr d.a d.b d.len
def RouteW.badAt (r:RouteW) (k:Nat):Prop:=r.rides.getD k 0<1\/r.stops.getD k 0=r.stops.getD (k+1) 0
open Classical in
def RouteW.err (r:RouteW):Int:=if(-1:Int)∈r.stops then 5 else if ∃k,k<r.rides.length/\r.badAt k then 2 else 0
def TripW.err (t:TripW):Int:=if t.route<0 then 5 else if t.untl<t.frm then 2 else 0
def HazW.err (hz:Int) (h:HazW):Int:=if h.on<0 then 5 else h.times.err hz
def atKind (k:Int):Option (Int×Nat)->Option WrongD
 |none=>none
 |some (e,i)=>some ⟨e,k,i⟩
def WorldD.wrong (w:WorldD):WrongD:=
 (dups [] w.names.lists 0).getD<|
 (atKind 2 (firstErr PathW.err w.paths 0)).getD<|
 (atKind 3 (firstErr (DoorW.err w.hz) w.doors 0)).getD<|
 (atKind 4 (firstErr RouteW.err w.routes 0)).getD<|
 (atKind 5 (firstErr TripW.err w.trips 0)).getD<|
 (atKind 6 (firstErr (HazW.err w.hz) w.hazards 0)).getD Wrong0
def SheetD.make (x:SheetD):WorldD×WrongD:=
 if x.err=0 then if x.num.wrong.err=0 then(x.num,Wrong0)else(WorldD.none,x.num.wrong)else(WorldD.none,⟨x.err,0,0⟩)
end Go.CM.Tt
namespace Go.CM.Tt
def classI (c:Int):Int:=if 97<=c/\c<=122 then 1 else if 48<=c/\c<=57 then 2 else if c=45\/c=95 then 3 else 0
end Go.CM.Tt
namespace Go.CM.Tt
theorem place_ge:∀(l:List Str) (s:Str),-1<=place l s
 |[],_=>Int.le_refl _
 |a::l,s=>by
  have:=place_ge l s;unfold place;split
  ·omega
  ·split<;>omega
theorem place_none:∀{l:List Str} {s:Str},(∀(j:Nat) (a:Str),l[j]? =some a->a≠s)->place l s= -1
 |[],_,_=>rfl
 |a::l,s,h=>by
  have h0:=h 0 a rfl;have ih:=place_none (l:=l) (s:=s) λj b hj=>h (j+1) b (by simpa using hj);unfold place;rw[if_neg h0,ih];rfl
theorem place_some:∀{l:List Str} {s:Str} {k:Nat},l[k]? =some s->(∀(j:Nat),j<k->∀(a:Str),l[j]? =some a->a≠s)->place l s=k
 |[],_,_,h,_=>by simp at h
 |a::l,s,0,h,_=>by
  have:a=s:=by simpa using h
  unfold place;rw[if_pos this];rfl
 |a::l,s,k+1,h,hn=>by
  have h0:=hn 0 (by omega) a rfl;have ih:=place_some (l:=l) (s:=s) (k:=k) (by simpa using h) λj hj b hb=>hn (j+1) (by omega) b (by simpa using hb);unfold place;rw[if_neg h0,ih,if_neg (by omega)];omega
theorem place_mem:∀{l:List Str} {s:Str},0<=place l s↔s∈l
 |[],s=>by unfold place;simp
 |a::l,s=>by
  have ih:=place_mem (l:=l) (s:=s);have:=place_ge l s;unfold place;by_cases c:a=s
  ·rw[if_pos c,c];simp
  ·rw[if_neg c,List.mem_cons]
   by_cases d:place l s<0
   ·rw[if_pos d]
    exact Iff.intro (λh=>by omega) (λh=>by
     rcases h with h|h
     ·exact absurd h.symm c
     ·have:=ih.2 h;omega)
   ·rw[if_neg d]
    exact Iff.intro (λ_=> .inr (ih.1 (by omega))) (λ_=>by omega)
theorem classI_nat (c:UInt8):classI (c.toNat:Int)=classB c.toNat:=by
 unfold classI classB;have e1:(97<=(c.toNat:Int)/\(c.toNat:Int)<=122)↔(97<=c.toNat/\c.toNat<=122):=by omega
 have e2:(48<=(c.toNat:Int)/\(c.toNat:Int)<=57)↔(48<=c.toNat/\c.toNat<=57):=by omega
 have e3:((c.toNat:Int)=45\/(c.toNat:Int)=95)↔(c.toNat=45\/c.toNat=95):=by omega
 simp only[e1,e2,e3]
end Go.CM.Tt
namespace Go.CM.Tt
def SheetD.slim (x:SheetD):Prop:=∀r∈x.routes,r.stops.length<=1000/\r.rides.length<=1000/\r.stays.length<=1000
theorem flat_bound {α β:Type} {f:α->List β} {c:Nat}:∀{l:List α},(∀a∈l,(f a).length<=c)->(l.flatMap f).length<=l.length*c
 |[],_=>by simp
 |a::l,h=>by
  have ih:=flat_bound (l:=l) λb hb=>h b (List.mem_cons_of_mem _ hb);have:=h a (by simp);rw[List.flatMap_cons,List.length_append,List.length_cons,Nat.succ_mul];omega
theorem SheetD.all_len {x:SheetD} (few:x.few) (sl:x.slim):x.all.length<=1073741824:=by
 obtain⟨f1,f2,f3,f4,f5,f6⟩:=few;have h1:=flat_bound (l:=x.paths) (f:=λp=>[p.name,p.a,p.b]) (c:=3) λa _=>Nat.le_refl _;have h2:=flat_bound (l:=x.doors) (f:=λp=>[p.name,p.a,p.b]) (c:=3) λa _=>Nat.le_refl _;have h3:=flat_bound (l:=x.routes) (f:=λr=>r.name::r.stops) (c:=1001) λa ha=>by have:=(sl a ha).1;simp only[List.length_cons];omega
 have h4:=flat_bound (l:=x.trips) (f:=λt=>[t.name,t.route]) (c:=2) λa _=>Nat.le_refl _;have h5:=flat_bound (l:=x.hazards) (f:=λh=>[h.name,h.on]) (c:=2) λa _=>Nat.le_refl _;unfold SheetD.all;simp only[List.length_append];omega
theorem SheetD.nums_len {x:SheetD} (few:x.few) (sl:x.slim):x.nums.length<=1073741824:=by
 obtain⟨f1,f2,f3,f4,f5,f6⟩:=few;have h2:=flat_bound (l:=x.doors) (f:=λd=>d.len::d.times.nums) (c:=4) λa _=>Nat.le_refl _;have h3:=flat_bound (l:=x.routes) (f:=λr=>r.rides++r.stays) (c:=2000) λa ha=>by have:=sl a ha;simp only[List.length_append];omega
 have h4:=flat_bound (l:=x.trips) (f:=λt=>[t.frm,t.evr,t.untl]) (c:=3) λa _=>Nat.le_refl _;have h5:=flat_bound (l:=x.hazards) (f:=λh=>h.times.nums) (c:=3) λa _=>Nat.le_refl _;unfold SheetD.nums;simp only[List.length_append,List.length_map,List.length_cons,List.length_nil];omega
end Go.CM.Tt
