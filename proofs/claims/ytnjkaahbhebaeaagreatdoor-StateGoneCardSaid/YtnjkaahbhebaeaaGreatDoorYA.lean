/- The plain data of timetables, and what cells say of them. No condition, no program. (Printed by gs.py.) -/
import Derived.Test.YtnjkaahbhebaeaaGreatDoorXNa
set_option linter.unusedVariables false
set_option linter.unusedSimpArgs false
noncomputable section
namespace Go.CM.Tt
structure Times where
 frm:Int
 evr:Int
 len:Int
instance:DecidableEq Times:=λa b=>
 if h0:a.frm=b.frm then
 if h1:a.evr=b.evr then
 if h2:a.len=b.len then
  isTrue (by cases a;cases b;simp_all)
 else isFalse (λh=>h2 (by rw[h]))
 else isFalse (λh=>h1 (by rw[h]))
 else isFalse (λh=>h0 (by rw[h]))
def Times.enc (d:Times):List CV:=[.int .i64 d.frm,.int .i64 d.evr,.int .i64 d.len]
instance:Rp Times:=⟨3,λ_ cs d=>cs=d.enc,λ_ h=>h,λh=>by rw[h];rfl⟩
theorem Times.flat (h:Heap) (cs:List CV) (d:Times):Rp.R h cs d↔cs=d.enc:=Iff.rfl
instance:Flat Times:=⟨Times.enc,Times.flat⟩
structure PathS where
 name:Str
 a:Str
 b:Str
 len:Int
instance:DecidableEq PathS:=λa b=>
 if h0:a.name=b.name then
 if h1:a.a=b.a then
 if h2:a.b=b.b then
 if h3:a.len=b.len then
  isTrue (by cases a;cases b;simp_all)
 else isFalse (λh=>h3 (by rw[h]))
 else isFalse (λh=>h2 (by rw[h]))
 else isFalse (λh=>h1 (by rw[h]))
 else isFalse (λh=>h0 (by rw[h]))
def PathS.enc (d:PathS):List CV:=[.str d.name,.str d.a,.str d.b,.int .i64 d.len]
instance:Rp PathS:=⟨4,λ_ cs d=>cs=d.enc,λ_ h=>h,λh=>by rw[h];rfl⟩
theorem PathS.flat (h:Heap) (cs:List CV) (d:PathS):Rp.R h cs d↔cs=d.enc:=Iff.rfl
instance:Flat PathS:=⟨PathS.enc,PathS.flat⟩
structure DoorS where
 name:Str
 a:Str
 b:Str
 len:Int
 times:Times
instance:DecidableEq DoorS:=λa b=>
 if h0:a.name=b.name then
 if h1:a.a=b.a then
 if h2:a.b=b.b then
 if h3:a.len=b.len then
 if h4:a.times=b.times then
  isTrue (by cases a;cases b;simp_all)
 else isFalse (λh=>h4 (by rw[h]))
 else isFalse (λh=>h3 (by rw[h]))
 else isFalse (λh=>h2 (by rw[h]))
 else isFalse (λh=>h1 (by rw[h]))
 else isFalse (λh=>h0 (by rw[h]))
def DoorS.enc (d:DoorS):List CV:=[.str d.name,.str d.a,.str d.b,.int .i64 d.len,.int .i64 d.times.frm,.int .i64 d.times.evr,.int .i64 d.times.len]
instance:Rp DoorS:=⟨7,λ_ cs d=>cs=d.enc,λ_ h=>h,λh=>by rw[h];rfl⟩
theorem DoorS.flat (h:Heap) (cs:List CV) (d:DoorS):Rp.R h cs d↔cs=d.enc:=Iff.rfl
instance:Flat DoorS:=⟨DoorS.enc,DoorS.flat⟩
structure RouteS where
 name:Str
 stops:List Str
 rides:List Int
 stays:List Int
instance:DecidableEq RouteS:=λa b=>
 if h0:a.name=b.name then
 if h1:a.stops=b.stops then
 if h2:a.rides=b.rides then
 if h3:a.stays=b.stays then
  isTrue (by cases a;cases b;simp_all)
 else isFalse (λh=>h3 (by rw[h]))
 else isFalse (λh=>h2 (by rw[h]))
 else isFalse (λh=>h1 (by rw[h]))
 else isFalse (λh=>h0 (by rw[h]))
def RouteS.Cells (h:Heap) (cs:List CV) (d:RouteS):Prop:=∃v1 v2 v3,cs=[.str d.name,v1,v2,v3]/\Sl h v1 d.stops/\Sl h v2 d.rides/\Sl h v3 d.stays
instance:Rp RouteS:=⟨4,RouteS.Cells,λx ⟨v1,v2,v3,e,s1,s2,s3⟩=>⟨v1,v2,v3,e,s1.ext x,s2.ext x,s3.ext x⟩,λ⟨v1,v2,v3,e,_,_,_⟩=>by rw[e];rfl⟩
structure TripS where
 name:Str
 route:Str
 frm:Int
 evr:Int
 untl:Int
instance:DecidableEq TripS:=λa b=>
 if h0:a.name=b.name then
 if h1:a.route=b.route then
 if h2:a.frm=b.frm then
 if h3:a.evr=b.evr then
 if h4:a.untl=b.untl then
  isTrue (by cases a;cases b;simp_all)
 else isFalse (λh=>h4 (by rw[h]))
 else isFalse (λh=>h3 (by rw[h]))
 else isFalse (λh=>h2 (by rw[h]))
 else isFalse (λh=>h1 (by rw[h]))
 else isFalse (λh=>h0 (by rw[h]))
def TripS.enc (d:TripS):List CV:=[.str d.name,.str d.route,.int .i64 d.frm,.int .i64 d.evr,.int .i64 d.untl]
instance:Rp TripS:=⟨5,λ_ cs d=>cs=d.enc,λ_ h=>h,λh=>by rw[h];rfl⟩
theorem TripS.flat (h:Heap) (cs:List CV) (d:TripS):Rp.R h cs d↔cs=d.enc:=Iff.rfl
instance:Flat TripS:=⟨TripS.enc,TripS.flat⟩
structure HazS where
 name:Str
 on:Str
 times:Times
instance:DecidableEq HazS:=λa b=>
 if h0:a.name=b.name then
 if h1:a.on=b.on then
 if h2:a.times=b.times then
  isTrue (by cases a;cases b;simp_all)
 else isFalse (λh=>h2 (by rw[h]))
 else isFalse (λh=>h1 (by rw[h]))
 else isFalse (λh=>h0 (by rw[h]))
def HazS.enc (d:HazS):List CV:=[.str d.name,.str d.on,.int .i64 d.times.frm,.int .i64 d.times.evr,.int .i64 d.times.len]
instance:Rp HazS:=⟨5,λ_ cs d=>cs=d.enc,λ_ h=>h,λh=>by rw[h];rfl⟩
theorem HazS.flat (h:Heap) (cs:List CV) (d:HazS):Rp.R h cs d↔cs=d.enc:=Iff.rfl
instance:Flat HazS:=⟨HazS.enc,HazS.flat⟩
structure SheetD where
 hz:Int
 stops:List Str
 paths:List PathS
 doors:List DoorS
 routes:List RouteS
 trips:List TripS
 hazards:List HazS
instance:DecidableEq SheetD:=λa b=>
 if h0:a.hz=b.hz then
 if h1:a.stops=b.stops then
 if h2:a.paths=b.paths then
 if h3:a.doors=b.doors then
 if h4:a.routes=b.routes then
 if h5:a.trips=b.trips then
 if h6:a.hazards=b.hazards then
  isTrue (by cases a;cases b;simp_all)
 else isFalse (λh=>h6 (by rw[h]))
 else isFalse (λh=>h5 (by rw[h]))
 else isFalse (λh=>h4 (by rw[h]))
 else isFalse (λh=>h3 (by rw[h]))
 else isFalse (λh=>h2 (by rw[h]))
 else isFalse (λh=>h1 (by rw[h]))
 else isFalse (λh=>h0 (by rw[h]))
def SheetD.Cells (h:Heap) (cs:List CV) (d:SheetD):Prop:=∃v1 v2 v3 v4 v5 v6,cs=[.int .i64 d.hz,v1,v2,v3,v4,v5,v6]/\Sl h v1 d.stops/\Sl h v2 d.paths/\Sl h v3 d.doors/\Sl h v4 d.routes/\Sl h v5 d.trips/\Sl h v6 d.hazards
instance:Rp SheetD:=⟨7,SheetD.Cells,λx ⟨v1,v2,v3,v4,v5,v6,e,s1,s2,s3,s4,s5,s6⟩=>⟨v1,v2,v3,v4,v5,v6,e,s1.ext x,s2.ext x,s3.ext x,s4.ext x,s5.ext x,s6.ext x⟩,λ⟨v1,v2,v3,v4,v5,v6,e,_,_,_,_,_,_⟩=>by rw[e];rfl⟩
structure PathW where
 a:Int
 b:Int
 len:Int
instance:DecidableEq PathW:=λa b=>
 if h0:a.a=b.a then
 if h1:a.b=b.b then
 if h2:a.len=b.len then
  isTrue (by cases a;cases b;simp_all)
 else isFalse (λh=>h2 (by rw[h]))
 else isFalse (λh=>h1 (by rw[h]))
 else isFalse (λh=>h0 (by rw[h]))
def PathW.enc (d:PathW):List CV:=[.int .i64 d.a,.int .i64 d.b,.int .i64 d.len]
instance:Rp PathW:=⟨3,λ_ cs d=>cs=d.enc,λ_ h=>h,λh=>by rw[h];rfl⟩
theorem PathW.flat (h:Heap) (cs:List CV) (d:PathW):Rp.R h cs d↔cs=d.enc:=Iff.rfl
instance:Flat PathW:=⟨PathW.enc,PathW.flat⟩
structure DoorW where
 a:Int
 b:Int
 len:Int
 times:Times
instance:DecidableEq DoorW:=λa b=>
 if h0:a.a=b.a then
 if h1:a.b=b.b then
 if h2:a.len=b.len then
 if h3:a.times=b.times then
  isTrue (by cases a;cases b;simp_all)
 else isFalse (λh=>h3 (by rw[h]))
 else isFalse (λh=>h2 (by rw[h]))
 else isFalse (λh=>h1 (by rw[h]))
 else isFalse (λh=>h0 (by rw[h]))
def DoorW.enc (d:DoorW):List CV:=[.int .i64 d.a,.int .i64 d.b,.int .i64 d.len,.int .i64 d.times.frm,.int .i64 d.times.evr,.int .i64 d.times.len]
instance:Rp DoorW:=⟨6,λ_ cs d=>cs=d.enc,λ_ h=>h,λh=>by rw[h];rfl⟩
theorem DoorW.flat (h:Heap) (cs:List CV) (d:DoorW):Rp.R h cs d↔cs=d.enc:=Iff.rfl
instance:Flat DoorW:=⟨DoorW.enc,DoorW.flat⟩
structure RouteW where
 stops:List Int
 rides:List Int
 stays:List Int
instance:DecidableEq RouteW:=λa b=>
 if h0:a.stops=b.stops then
 if h1:a.rides=b.rides then
 if h2:a.stays=b.stays then
  isTrue (by cases a;cases b;simp_all)
 else isFalse (λh=>h2 (by rw[h]))
 else isFalse (λh=>h1 (by rw[h]))
 else isFalse (λh=>h0 (by rw[h]))
def RouteW.Cells (h:Heap) (cs:List CV) (d:RouteW):Prop:=∃v1 v2 v3,cs=[v1,v2,v3]/\Sl h v1 d.stops/\Sl h v2 d.rides/\Sl h v3 d.stays
instance:Rp RouteW:=⟨3,RouteW.Cells,λx ⟨v1,v2,v3,e,s1,s2,s3⟩=>⟨v1,v2,v3,e,s1.ext x,s2.ext x,s3.ext x⟩,λ⟨v1,v2,v3,e,_,_,_⟩=>by rw[e];rfl⟩
structure TripW where
 route:Int
 frm:Int
 evr:Int
 untl:Int
instance:DecidableEq TripW:=λa b=>
 if h0:a.route=b.route then
 if h1:a.frm=b.frm then
 if h2:a.evr=b.evr then
 if h3:a.untl=b.untl then
  isTrue (by cases a;cases b;simp_all)
 else isFalse (λh=>h3 (by rw[h]))
 else isFalse (λh=>h2 (by rw[h]))
 else isFalse (λh=>h1 (by rw[h]))
 else isFalse (λh=>h0 (by rw[h]))
def TripW.enc (d:TripW):List CV:=[.int .i64 d.route,.int .i64 d.frm,.int .i64 d.evr,.int .i64 d.untl]
instance:Rp TripW:=⟨4,λ_ cs d=>cs=d.enc,λ_ h=>h,λh=>by rw[h];rfl⟩
theorem TripW.flat (h:Heap) (cs:List CV) (d:TripW):Rp.R h cs d↔cs=d.enc:=Iff.rfl
instance:Flat TripW:=⟨TripW.enc,TripW.flat⟩
structure HazW where
 stop:Bool
 on:Int
 times:Times
instance:DecidableEq HazW:=λa b=>
 if h0:a.stop=b.stop then
 if h1:a.on=b.on then
 if h2:a.times=b.times then
  isTrue (by cases a;cases b;simp_all)
 else isFalse (λh=>h2 (by rw[h]))
 else isFalse (λh=>h1 (by rw[h]))
 else isFalse (λh=>h0 (by rw[h]))
def HazW.enc (d:HazW):List CV:=[.bool d.stop,.int .i64 d.on,.int .i64 d.times.frm,.int .i64 d.times.evr,.int .i64 d.times.len]
instance:Rp HazW:=⟨5,λ_ cs d=>cs=d.enc,λ_ h=>h,λh=>by rw[h];rfl⟩
theorem HazW.flat (h:Heap) (cs:List CV) (d:HazW):Rp.R h cs d↔cs=d.enc:=Iff.rfl
instance:Flat HazW:=⟨HazW.enc,HazW.flat⟩
structure NamesD where
 stops:List Str
 paths:List Str
 doors:List Str
 routes:List Str
 trips:List Str
 hazards:List Str
instance:DecidableEq NamesD:=λa b=>
 if h0:a.stops=b.stops then
 if h1:a.paths=b.paths then
 if h2:a.doors=b.doors then
 if h3:a.routes=b.routes then
 if h4:a.trips=b.trips then
 if h5:a.hazards=b.hazards then
  isTrue (by cases a;cases b;simp_all)
 else isFalse (λh=>h5 (by rw[h]))
 else isFalse (λh=>h4 (by rw[h]))
 else isFalse (λh=>h3 (by rw[h]))
 else isFalse (λh=>h2 (by rw[h]))
 else isFalse (λh=>h1 (by rw[h]))
 else isFalse (λh=>h0 (by rw[h]))
def NamesD.Cells (h:Heap) (cs:List CV) (d:NamesD):Prop:=∃v1 v2 v3 v4 v5 v6,cs=[v1,v2,v3,v4,v5,v6]/\Sl h v1 d.stops/\Sl h v2 d.paths/\Sl h v3 d.doors/\Sl h v4 d.routes/\Sl h v5 d.trips/\Sl h v6 d.hazards
instance:Rp NamesD:=⟨6,NamesD.Cells,λx ⟨v1,v2,v3,v4,v5,v6,e,s1,s2,s3,s4,s5,s6⟩=>⟨v1,v2,v3,v4,v5,v6,e,s1.ext x,s2.ext x,s3.ext x,s4.ext x,s5.ext x,s6.ext x⟩,λ⟨v1,v2,v3,v4,v5,v6,e,_,_,_,_,_,_⟩=>by rw[e];rfl⟩
structure WorldD where
 hz:Int
 names:NamesD
 paths:List PathW
 doors:List DoorW
 routes:List RouteW
 trips:List TripW
 hazards:List HazW
instance:DecidableEq WorldD:=λa b=>
 if h0:a.hz=b.hz then
 if h1:a.names=b.names then
 if h2:a.paths=b.paths then
 if h3:a.doors=b.doors then
 if h4:a.routes=b.routes then
 if h5:a.trips=b.trips then
 if h6:a.hazards=b.hazards then
  isTrue (by cases a;cases b;simp_all)
 else isFalse (λh=>h6 (by rw[h]))
 else isFalse (λh=>h5 (by rw[h]))
 else isFalse (λh=>h4 (by rw[h]))
 else isFalse (λh=>h3 (by rw[h]))
 else isFalse (λh=>h2 (by rw[h]))
 else isFalse (λh=>h1 (by rw[h]))
 else isFalse (λh=>h0 (by rw[h]))
def WorldD.Cells (h:Heap) (cs:List CV) (d:WorldD):Prop:=∃v1 v2 v3 v4 v5 v6 v7 v8 v9 v10 v11,cs=[.int .i64 d.hz,v1,v2,v3,v4,v5,v6,v7,v8,v9,v10,v11]/\Sl h v1 d.names.stops/\Sl h v2 d.names.paths/\Sl h v3 d.names.doors/\Sl h v4 d.names.routes/\Sl h v5 d.names.trips/\Sl h v6 d.names.hazards/\Sl h v7 d.paths/\Sl h v8 d.doors/\Sl h v9 d.routes/\Sl h v10 d.trips/\Sl h v11 d.hazards
instance:Rp WorldD:=⟨12,WorldD.Cells,λx ⟨v1,v2,v3,v4,v5,v6,v7,v8,v9,v10,v11,e,s1,s2,s3,s4,s5,s6,s7,s8,s9,s10,s11⟩=>⟨v1,v2,v3,v4,v5,v6,v7,v8,v9,v10,v11,e,s1.ext x,s2.ext x,s3.ext x,s4.ext x,s5.ext x,s6.ext x,s7.ext x,s8.ext x,s9.ext x,s10.ext x,s11.ext x⟩,λ⟨v1,v2,v3,v4,v5,v6,v7,v8,v9,v10,v11,e,_,_,_,_,_,_,_,_,_,_,_⟩=>by rw[e];rfl⟩
structure WrongD where
 err:Int
 kind:Int
 pos:Int
instance:DecidableEq WrongD:=λa b=>
 if h0:a.err=b.err then
 if h1:a.kind=b.kind then
 if h2:a.pos=b.pos then
  isTrue (by cases a;cases b;simp_all)
 else isFalse (λh=>h2 (by rw[h]))
 else isFalse (λh=>h1 (by rw[h]))
 else isFalse (λh=>h0 (by rw[h]))
def WrongD.enc (d:WrongD):List CV:=[.int .i64 d.err,.int .i64 d.kind,.int .i64 d.pos]
instance:Rp WrongD:=⟨3,λ_ cs d=>cs=d.enc,λ_ h=>h,λh=>by rw[h];rfl⟩
theorem WrongD.flat (h:Heap) (cs:List CV) (d:WrongD):Rp.R h cs d↔cs=d.enc:=Iff.rfl
instance:Flat WrongD:=⟨WrongD.enc,WrongD.flat⟩
structure WinD where
 frm:Int
 to:Int
instance:DecidableEq WinD:=λa b=>
 if h0:a.frm=b.frm then
 if h1:a.to=b.to then
  isTrue (by cases a;cases b;simp_all)
 else isFalse (λh=>h1 (by rw[h]))
 else isFalse (λh=>h0 (by rw[h]))
def WinD.enc (d:WinD):List CV:=[.int .i64 d.frm,.int .i64 d.to]
instance:Rp WinD:=⟨2,λ_ cs d=>cs=d.enc,λ_ h=>h,λh=>by rw[h];rfl⟩
theorem WinD.flat (h:Heap) (cs:List CV) (d:WinD):Rp.R h cs d↔cs=d.enc:=Iff.rfl
instance:Flat WinD:=⟨WinD.enc,WinD.flat⟩
end Go.CM.Tt

noncomputable section
namespace Go.CM.Tt
def Wrong0:WrongD:=⟨0,0,0⟩
def NamesD.none:NamesD:=⟨[],[],[],[],[],[]⟩
def WorldD.none:WorldD:=⟨0,NamesD.none,[],[],[],[],[]⟩
def classB (c:Nat):Int:=if 97<=c/\c<=122 then 1 else if 48<=c/\c<=57 then 2 else if c=45\/c=95 then 3 else 0
def reserved:List Str:=[[104,111,114,105,122,111,110],[115,116,111,112],[112,97,116,104],[100,111,111,114],[114,111,117,116,101],[116,114,105,112],[104,97,122,97,114,100],[102,114,111,109],[101,118,101,114,121],[111,112,101,110],[99,108,111,115,101,100],[111,102],[111,110],[117,110,116,105,108],[115,116,97,121]]
def NameOk (s:Str):Prop:=s≠[]/\s.length<=24/\(∀c,s[0]? =some c->classB c.toNat=1)/\s∉reserved/\∀c∈s,classB c.toNat≠0
def TickOk (t:Int):Prop:=0<=t/\t<=1099511627776
def SheetD.all (x:SheetD):List Str:=
 x.stops++(x.paths.flatMap λp=>[p.name,p.a,p.b])++(x.doors.flatMap λd=>[d.name,d.a,d.b])++(x.routes.flatMap λr=>r.name::r.stops)++(x.trips.flatMap λt=>[t.name,t.route])++(x.hazards.flatMap λh=>[h.name,h.on])
def Times.nums (t:Times):List Int:=[t.frm,t.evr,t.len]
def SheetD.nums (x:SheetD):List Int:=
 [x.hz]++(x.paths.map λp=>p.len)++(x.doors.flatMap λd=>d.len::d.times.nums)++(x.routes.flatMap λr=>r.rides++r.stays)++(x.trips.flatMap λt=>[t.frm,t.evr,t.untl])++(x.hazards.flatMap λh=>h.times.nums)
def RouteS.ok (r:RouteS):Prop:=2<=r.stops.length/\r.stops.length<=32/\r.rides.length+1=r.stops.length/\r.stays.length+2=r.stops.length
def SheetD.few (x:SheetD):Prop:=x.stops.length<=256/\x.paths.length<=1024/\x.doors.length<=256/\x.routes.length<=256/\x.trips.length<=1024/\x.hazards.length<=256
open Classical in
def SheetD.err (x:SheetD):Int:=
 if ¬x.few then 3 else if ¬∀s∈x.all,NameOk s then 7 else if ¬∀n∈x.nums,TickOk n then 9 else if ¬∀r∈x.routes,r.ok then 2 else 0
def place:List Str->Str->Int
 |[],_=> -1
 |a::l,s=>if a=s then 0 else if place l s<0 then -1 else place l s+1
def PathS.num (l:List Str) (p:PathS):PathW:=⟨place l p.a,place l p.b,p.len⟩
def DoorS.num (l:List Str) (d:DoorS):DoorW:=⟨place l d.a,place l d.b,d.len,d.times⟩
def RouteS.num (l:List Str) (r:RouteS):RouteW:=⟨r.stops.map (place l),r.rides,r.stays⟩
def TripS.num (l:List Str) (t:TripS):TripW:=⟨place l t.route,t.frm,t.evr,t.untl⟩
def HazS.num (l m:List Str) (h:HazS):HazW:=if 0<=place l h.on then⟨true,place l h.on,h.times⟩else⟨false,place m h.on,h.times⟩
def SheetD.names (x:SheetD):NamesD:=⟨x.stops,x.paths.map (·.name),x.doors.map (·.name),x.routes.map (·.name),x.trips.map (·.name),x.hazards.map (·.name)⟩
def SheetD.num (x:SheetD):WorldD:=
 ⟨x.hz,x.names,x.paths.map (·.num x.stops),x.doors.map (·.num x.stops),x.routes.map (·.num x.stops),x.trips.map (·.num x.names.routes),x.hazards.map (·.num x.stops x.names.paths)⟩
def NamesD.lists (n:NamesD):List (List Str):=[[],n.stops,n.paths,n.doors,n.routes,n.trips,n.hazards]
def dupIn (seen:List Str):List Str->Nat->Option Nat
 |[],_=>none
 |a::l,i=>if a∈seen then some i else dupIn (seen++[a]) l (i+1)
def dups (seen:List Str):List (List Str)->Int->Option WrongD
 |[],_=>none
 |l::r,k=>match dupIn seen l 0 with
  |some i=>some ⟨6,k,i⟩
  |none=>dups (seen++l) r (k+1)
def firstErr {α:Type} (f:α->Int):List α->Nat->Option (Int×Nat)
 |[],_=>none
 |a::l,i=>if f a=0 then firstErr f l (i+1)else some (f a,i)
def wayErr (a b n:Int):Int:=if a<0\/b<0 then 5 else if a=b\/n<1 then 2 else 0
def Times.ok (t:Times):Prop:=TickOk t.frm/\1<=t.len/\t.len<=1099511627776/\(t.evr=0\/(t.len<=t.evr/\t.evr<=1099511627776))
def countT (frm evr hz:Int):Int:=if hz<frm then 0 else if evr=0 then 1 else(hz-frm)/evr+1
open Classical in
def Times.err (t:Times) (hz:Int):Int:=if ¬t.ok then 2 else if ¬TickOk hz then 9 else if 256<countT t.frm t.evr hz then 3 else 0
def PathW.err (p:PathW):Int:=wayErr p.a p.b p.len
def DoorW.err (hz:Int) (d:DoorW):Int:=if wayErr d.a d.b d.len=0 then d.times.err hz else wayErr d.a d.b d.len
def RouteW.badAt (r:RouteW) (k:Nat):Prop:=r.rides.getD k 0<1\/r.stops.getD k 0=r.stops.getD (k+1) 0
open Classical in
def RouteW.err (r:RouteW):Int:=if(-1:Int)∈r.stops then 5 else if ∃k,k<r.rides.length/\r.badAt k then 2 else 0
def TripW.err (t:TripW):Int:=if t.route<0 then 5 else if t.untl<t.frm then 2 else 0
def HazW.err (hz:Int) (h:HazW):Int:=if h.on<0 then 5 else h.times.err hz
def atKind (k:Int):Option (Int×Nat)->Option WrongD
 |none=>none
 |some (e,i)=>some ⟨e,k,i⟩
def WorldD.wrong (w:WorldD):WrongD:=
 (dups [] w.names.lists 0).getD<|
 (atKind 2 (firstErr PathW.err w.paths 0)).getD<|
 (atKind 3 (firstErr (DoorW.err w.hz) w.doors 0)).getD<|
 (atKind 4 (firstErr RouteW.err w.routes 0)).getD<|
 (atKind 5 (firstErr TripW.err w.trips 0)).getD<|
 (atKind 6 (firstErr (HazW.err w.hz) w.hazards 0)).getD Wrong0
def SheetD.make (x:SheetD):WorldD×WrongD:=
 if x.err=0 then if x.num.wrong.err=0 then(x.num,Wrong0)else(WorldD.none,x.num.wrong)else(WorldD.none,⟨x.err,0,0⟩)
end Go.CM.Tt
namespace Go.CM.Tt
def classI (c:Int):Int:=if 97<=c/\c<=122 then 1 else if 48<=c/\c<=57 then 2 else if c=45\/c=95 then 3 else 0
end Go.CM.Tt
namespace Go.CM.Tt
theorem place_ge:∀(l:List Str) (s:Str),-1<=place l s
 |[],_=>Int.le_refl _
 |a::l,s=>by
  have:=place_ge l s;unfold place;split
  ·omega
  ·split<;>omega
theorem place_none:∀{l:List Str} {s:Str},(∀(j:Nat) (a:Str),l[j]? =some a->a≠s)->place l s= -1
 |[],_,_=>rfl
 |a::l,s,h=>by
  have h0:=h 0 a rfl;have ih:=place_none (l:=l) (s:=s) λj b hj=>h (j+1) b (by simpa using hj);unfold place;rw[if_neg h0,ih];rfl
theorem place_some:∀{l:List Str} {s:Str} {k:Nat},l[k]? =some s->(∀(j:Nat),j<k->∀(a:Str),l[j]? =some a->a≠s)->place l s=k
 |[],_,_,h,_=>by simp at h
 |a::l,s,0,h,_=>by
  have:a=s:=by simpa using h
  unfold place;rw[if_pos this];rfl
 |a::l,s,k+1,h,hn=>by
  have h0:=hn 0 (by omega) a rfl;have ih:=place_some (l:=l) (s:=s) (k:=k) (by simpa using h) λj hj b hb=>hn (j+1) (by omega) b (by simpa using hb);unfold place;rw[if_neg h0,ih,if_neg (by omega)];omega
theorem place_mem:∀{l:List Str} {s:Str},0<=place l s↔s∈l
 |[],s=>by unfold place;simp
 |a::l,s=>by
  have ih:=place_mem (l:=l) (s:=s);have:=place_ge l s;unfold place;by_cases c:a=s
  ·rw[if_pos c,c];simp
  ·rw[if_neg c,List.mem_cons]
   by_cases d:place l s<0
   ·rw[if_pos d]
    exact Iff.intro (λh=>by omega) (λh=>by
     rcases h with h|h
     ·exact absurd h.symm c
     ·have:=ih.2 h;omega)
   ·rw[if_neg d]
    exact Iff.intro (λ_=> .inr (ih.1 (by omega))) (λ_=>by omega)
theorem classI_nat (c:UInt8):classI (c.toNat:Int)=classB c.toNat:=by
 unfold classI classB;have e1:(97<=(c.toNat:Int)/\(c.toNat:Int)<=122)↔(97<=c.toNat/\c.toNat<=122):=by omega
 have e2:(48<=(c.toNat:Int)/\(c.toNat:Int)<=57)↔(48<=c.toNat/\c.toNat<=57):=by omega
 have e3:((c.toNat:Int)=45\/(c.toNat:Int)=95)↔(c.toNat=45\/c.toNat=95):=by omega
 simp only[e1,e2,e3]
end Go.CM.Tt
namespace Go.CM.Tt
def SheetD.slim (x:SheetD):Prop:=∀r∈x.routes,r.stops.length<=1000/\r.rides.length<=1000/\r.stays.length<=1000
theorem flat_bound {α β:Type} {f:α->List β} {c:Nat}:∀{l:List α},(∀a∈l,(f a).length<=c)->(l.flatMap f).length<=l.length*c
 |[],_=>by simp
 |a::l,h=>by
  have ih:=flat_bound (l:=l) λb hb=>h b (List.mem_cons_of_mem _ hb);have:=h a (by simp);rw[List.flatMap_cons,List.length_append,List.length_cons,Nat.succ_mul];omega
theorem SheetD.all_len {x:SheetD} (few:x.few) (sl:x.slim):x.all.length<=1073741824:=by
 obtain⟨f1,f2,f3,f4,f5,f6⟩:=few;have h1:=flat_bound (l:=x.paths) (f:=λp=>[p.name,p.a,p.b]) (c:=3) λa _=>Nat.le_refl _;have h2:=flat_bound (l:=x.doors) (f:=λp=>[p.name,p.a,p.b]) (c:=3) λa _=>Nat.le_refl _;have h3:=flat_bound (l:=x.routes) (f:=λr=>r.name::r.stops) (c:=1001) λa ha=>by have:=(sl a ha).1;simp only[List.length_cons];omega
 have h4:=flat_bound (l:=x.trips) (f:=λt=>[t.name,t.route]) (c:=2) λa _=>Nat.le_refl _;have h5:=flat_bound (l:=x.hazards) (f:=λh=>[h.name,h.on]) (c:=2) λa _=>Nat.le_refl _;unfold SheetD.all;simp only[List.length_append];omega
theorem SheetD.nums_len {x:SheetD} (few:x.few) (sl:x.slim):x.nums.length<=1073741824:=by
 obtain⟨f1,f2,f3,f4,f5,f6⟩:=few;have h2:=flat_bound (l:=x.doors) (f:=λd=>d.len::d.times.nums) (c:=4) λa _=>Nat.le_refl _;have h3:=flat_bound (l:=x.routes) (f:=λr=>r.rides++r.stays) (c:=2000) λa ha=>by have:=sl a ha;simp only[List.length_append];omega
 have h4:=flat_bound (l:=x.trips) (f:=λt=>[t.frm,t.evr,t.untl]) (c:=3) λa _=>Nat.le_refl _;have h5:=flat_bound (l:=x.hazards) (f:=λh=>h.times.nums) (c:=3) λa _=>Nat.le_refl _;unfold SheetD.nums;simp only[List.length_append,List.length_map,List.length_cons,List.length_nil];omega
end Go.CM.Tt

namespace Go.CM.Tt
def Clean (seen l:List Str) (n:Nat):Prop:=∀m a,m<n->l[m]? =some a->a∉seen++l.take m
theorem dupIn_no:∀{l seen:List Str} {i:Nat},Clean seen l l.length->dupIn seen l i=none
 |[],_,_,_=>rfl
 |a::l,seen,i,h=>by
  have h0:a∉seen:=by simpa using h 0 a (by simp) rfl
  have ih:=dupIn_no (l:=l) (seen:=seen++[a]) (i:=i+1) λm b hm hb=>by
   have:=h (m+1) b (by simpa using hm) (by simpa using hb);simpa[List.append_assoc]using this
  unfold dupIn;rw[if_neg h0,ih]
theorem dupIn_some:∀{l seen:List Str} {i j:Nat} {a:Str},Clean seen l j->l[j]? =some a->a∈seen++l.take j->dupIn seen l i=some (i+j)
 |[],_,_,_,_,_,h,_=>by simp at h
 |b::l,seen,i,0,a,_,h,hm=>by
  have:b=a:=by simpa using h
  unfold dupIn;rw[if_pos (by rw[this];simpa using hm)];rfl
 |b::l,seen,i,j+1,a,hc,h,hm=>by
  have h0:b∉seen:=by simpa using hc 0 b (by omega) rfl
  have ih:=dupIn_some (l:=l) (seen:=seen++[b]) (i:=i+1) (j:=j) (a:=a) (λm c hm hc'=>by
   have:=hc (m+1) c (by omega) (by simpa using hc');simpa[List.append_assoc]using this) (by simpa using h) (by simpa[List.append_assoc]using hm)
  unfold dupIn;rw[if_neg h0,ih]
  congr 1
  omega
theorem dups_no:∀{L:List (List Str)} {seen:List Str} {k:Int},(∀n l,L[n]? =some l->Clean (seen++(L.take n).flatten) l l.length)->dups seen L k=none
 |[],_,_,_=>rfl
 |l::L,seen,k,h=>by
  have h0:=h 0 l rfl
  have ih:=dups_no (L:=L) (seen:=seen++l) (k:=k+1) λn m hm=>by
   have:=h (n+1) m (by simpa using hm);simpa[List.append_assoc]using this
  unfold dups;rw[dupIn_no (by simpa using h0)];exact ih
theorem dups_some:∀{L:List (List Str)} {seen:List Str} {k:Int} {n:Nat} {l:List Str} {j:Nat} {a:Str},(∀n' l',n'<n->L[n']? =some l'->Clean (seen++(L.take n').flatten) l' l'.length)->L[n]? =some l->Clean (seen++(L.take n).flatten) l j->l[j]? =some a->a∈(seen++(L.take n).flatten)++l.take j->dups seen L k=some ⟨6,k+n,j⟩
 |[],_,_,_,_,_,_,_,h,_,_,_=>by simp at h
 |l0::L,seen,k,0,l,j,a,_,h,hc,ha,hm=>by
  have:l0=l:=by simpa using h
  subst this;unfold dups;rw[dupIn_some (i:=0) (j:=j) (by simpa using hc) ha (by simpa using hm)];simp
 |l0::L,seen,k,n+1,l,j,a,hp,h,hc,ha,hm=>by
  have h0:=hp 0 l0 (by omega) rfl
  have ih:=dups_some (L:=L) (seen:=seen++l0) (k:=k+1) (n:=n) (l:=l) (j:=j) (a:=a) (λn' l' hn' hl'=>by
   have:=hp (n'+1) l' (by omega) (by simpa using hl');simpa[List.append_assoc]using this) (by simpa using h) (by simpa[List.append_assoc]using hc) ha (by simpa[List.append_assoc]using hm)
  unfold dups;rw[dupIn_no (by simpa using h0)];simp only;rw[ih]
  congr 2
  omega
theorem firstErr_no {α:Type} {f:α->Int}:∀{l:List α} {i:Nat},(∀a∈l,f a=0)->firstErr f l i=none
 |[],_,_=>rfl
 |a::l,i,h=>by
  unfold firstErr;rw[if_pos (h a (by simp))];exact firstErr_no λb hb=>h b (List.mem_cons_of_mem _ hb)
theorem firstErr_none {α:Type} {f:α->Int}:∀{l:List α} {i:Nat},firstErr f l i=none->∀a∈l,f a=0
 |[],_,_,a,h=>by cases h
 |b::l,i,h,a,ha=>by
  unfold firstErr at h;split at h
  ·rename_i hb
   rcases List.mem_cons.1 ha with rfl|ha
   ·exact hb
   ·exact firstErr_none h a ha
  ·cases h
theorem firstErr_some {α:Type} {f:α->Int}:∀{l:List α} {i j:Nat} {a:α},(∀m b,m<j->l[m]? =some b->f b=0)->l[j]? =some a->f a≠0->firstErr f l i=some (f a,i+j)
 |[],_,_,_,_,h,_=>by simp at h
 |b::l,i,0,a,_,h,hf=>by
  have:b=a:=by simpa using h
  subst this;unfold firstErr;rw[if_neg hf];rfl
 |b::l,i,j+1,a,hc,h,hf=>by
  have h0:=hc 0 b (by omega) rfl;have ih:=firstErr_some (l:=l) (i:=i+1) (j:=j) (a:=a) (λm c hm hc'=>hc (m+1) c (by omega) (by simpa using hc')) (by simpa using h) hf;unfold firstErr;rw[if_pos h0,ih]
  congr 2
  omega
end Go.CM.Tt

namespace Go.CM.Tt
theorem firstErr_map {α:Type} (f:α->Int):∀(l:List α) (i:Nat),firstErr f l i=firstErr id (l.map f) i
 |[],_=>rfl
 |a::l,i=>by
  rw[List.map_cons];unfold firstErr;rw[firstErr_map f l (i+1)];rfl
theorem len_le_flatten {α:Type}:∀{L:List (List α)} {l:List α},l∈L->l.length<=L.flatten.length
 |[],_,h=>by cases h
 |a::L,l,h=>by
  rw[List.flatten_cons,List.length_append];rcases List.mem_cons.1 h with rfl|h
  ·omega
  ·have:=len_le_flatten h
   omega
noncomputable def WorldD.errs (w:WorldD):List (List Int):=[[],w.names.stops.map λ_=>0,w.paths.map PathW.err,w.doors.map (DoorW.err w.hz),w.routes.map RouteW.err,w.trips.map TripW.err,w.hazards.map (HazW.err w.hz)]
theorem wrong_err {w:WorldD} (hd:dups [] w.names.lists 0=none) {k j:Nat} {l:List Int} {e:Int} (hp:∀n l',n<k->w.errs[n]? =some l'->∀x∈l',x=0) (hl:w.errs[k]? =some l) (hj:∀m b,m<j->l[m]? =some b->b=0) (he:l[j]? =some e) (h0:e≠0):w.wrong=⟨e,k,j⟩:=by
 have hs:firstErr id l 0=some (e,j):=by
  have:=firstErr_some (f:=id) (i:=0) hj he h0;simpa using this
 have no:∀n l',n<k->w.errs[n]? =some l'->firstErr id l' 0=none:=λn l' hn hl'=>firstErr_no (hp n l' hn hl');unfold WorldD.wrong;rw[hd,firstErr_map PathW.err,firstErr_map (DoorW.err w.hz),firstErr_map RouteW.err,firstErr_map TripW.err,firstErr_map (HazW.err w.hz)];have hk:k<7:=(List.getElem?_eq_some_iff.1 hl).1;unfold WorldD.errs at hl no;rcases k with _|_|_|_|_|_|_|k
 ·cases hl;simp at he
 ·cases hl
  rw[List.getElem?_map]at he;cases hx:w.names.stops[j]? with
  |none=>rw[hx]at he;cases he
  |some x=>rw[hx]at he;exact absurd (Option.some.inj he).symm h0
 ·cases hl
  rw[hs];rfl
 ·have n2:=no 2 _ (by omega) rfl
  cases hl;rw[n2,hs];rfl
 ·have n2:=no 2 _ (by omega) rfl
  have n3:=no 3 _ (by omega) rfl;cases hl;rw[n2,n3,hs];rfl
 ·have n2:=no 2 _ (by omega) rfl
  have n3:=no 3 _ (by omega) rfl;have n4:=no 4 _ (by omega) rfl;cases hl;rw[n2,n3,n4,hs];rfl
 ·have n2:=no 2 _ (by omega) rfl
  have n3:=no 3 _ (by omega) rfl;have n4:=no 4 _ (by omega) rfl;have n5:=no 5 _ (by omega) rfl;cases hl;rw[n2,n3,n4,n5,hs];rfl
 ·omega
theorem wrong_none {w:WorldD} (hd:dups [] w.names.lists 0=none) (hp:∀(n:Nat) (l':List Int),w.errs[n]? =some l'->∀x∈l',x=0):w.wrong=Wrong0:=by
 have no:∀(n:Nat) (l':List Int),w.errs[n]? =some l'->firstErr id l' 0=none:=λn l' hl'=>firstErr_no (hp n l' hl');unfold WorldD.wrong;rw[hd,firstErr_map PathW.err,firstErr_map (DoorW.err w.hz),firstErr_map RouteW.err,firstErr_map TripW.err,firstErr_map (HazW.err w.hz)];rw[no 2 _ rfl,no 3 _ rfl,no 4 _ rfl,no 5 _ rfl,no 6 _ rfl];rfl
end Go.CM.Tt

noncomputable section
namespace Go.CM.Tt
def SheetD.Ok (x:SheetD):Prop:=x.few/\(∀s∈x.all,NameOk s)/\(∀n∈x.nums,TickOk n)/\∀r∈x.routes,r.ok
theorem nn {p:Prop} (h:p):¬¬p:=λg=>g h
theorem SheetD.err_zero {x:SheetD}:x.err=0↔x.Ok:=by
 unfold SheetD.err SheetD.Ok;by_cases c1:x.few
 ·by_cases c2:∀s∈x.all,NameOk s
  ·by_cases c3:∀n∈x.nums,TickOk n
   ·by_cases c4:∀r∈x.routes,r.ok
    ·rw[if_neg (nn c1),if_neg (nn c2),if_neg (nn c3),if_neg (nn c4)]
     exact Iff.intro (λ_=>⟨c1,c2,c3,c4⟩) (λ_=>rfl)
    ·rw[if_neg (nn c1),if_neg (nn c2),if_neg (nn c3),if_pos c4]
     exact Iff.intro (λh=>by cases h) (λh=>absurd h.2.2.2 c4)
   ·rw[if_neg (nn c1),if_neg (nn c2),if_pos c3]
    exact Iff.intro (λh=>by cases h) (λh=>absurd h.2.2.1 c3)
  ·rw[if_neg (nn c1),if_pos c2]
   exact Iff.intro (λh=>by cases h) (λh=>absurd h.2.1 c2)
 ·rw[if_pos c1]
  exact Iff.intro (λh=>by cases h) (λh=>absurd h.1 c1)
theorem dupIn_nodup:∀{l seen:List Str} {i:Nat},dupIn seen l i=none->seen.Nodup->(seen++l).Nodup
 |[],seen,_,_,h=>by simpa using h
 |a::l,seen,i,h,hs=>by
  unfold dupIn at h;by_cases c:a∈seen
  ·rw[if_pos c]at h;cases h
  ·rw[if_neg c]at h
   have:=dupIn_nodup h (List.nodup_append.2 ⟨hs,by simp,λx hx y hy e=>by
    rw[List.mem_singleton]at hy;exact c (by rw[<-hy,<-e];exact hx)⟩)
   simpa[List.append_assoc]using this
theorem dups_nodup:∀{L:List (List Str)} {seen:List Str} {k:Int},dups seen L k=none->seen.Nodup->(seen++L.flatten).Nodup
 |[],seen,_,_,h=>by simpa using h
 |l::L,seen,k,h,hs=>by
  unfold dups at h;cases c:dupIn seen l 0 with
  |some i=>rw[c]at h;cases h
  |none=>
   rw[c]at h;have:=dups_nodup h (dupIn_nodup c hs);simpa[List.append_assoc]using this
theorem clean_nodup {seen p r:List Str} (h:(seen++p).Nodup):Clean seen (p++r) p.length:=by
 intro m a hm ha hin;rw[List.getElem?_append_left hm]at ha;rw[List.take_append_of_le_length (by omega)]at hin;have e:seen++p=(seen++p.take m)++p.drop m:=by rw[List.append_assoc,List.take_append_drop]
 rw[e]at h
 have hd:a∈p.drop m:=by
  have e2:(p.drop m)[0]? =some a:=by rw[List.getElem?_drop,Nat.add_zero];exact ha
  exact List.mem_of_getElem? e2
 exact(List.nodup_append.1 h).2.2 a hin a hd rfl
theorem flatten_take {L:List (List Str)} {n:Nat} {l:List Str} (h:L.flatten.Nodup) (hl:L[n]? =some l):((L.take n).flatten++l).Nodup:=by
 have hlt:=(List.getElem?_eq_some_iff.1 hl).1
 have e:L=L.take n++(l::L.drop (n+1)):=by
  conv=>lhs;rw[<-List.take_append_drop n L,List.drop_eq_getElem_cons hlt]
  rw[List.getElem?_eq_getElem hlt]at hl;rw[Option.some.inj hl]
 rw[e,List.flatten_append,List.flatten_cons,<-List.append_assoc]at h;exact(List.nodup_append.1 h).1
theorem dups_err:∀{L:List (List Str)} {seen:List Str} {k:Int} {d:WrongD},dups seen L k=some d->d.err=6
 |[],_,_,_,h=>by cases h
 |l::L,seen,k,d,h=>by
  unfold dups at h;cases c:dupIn seen l 0 with
  |some i=>rw[c]at h;cases h;rfl
  |none=>rw[c]at h;exact dups_err h
theorem firstErr_err {α:Type} {f:α->Int}:∀{l:List α} {i:Nat} {e:Int} {j:Nat},firstErr f l i=some (e,j)->e≠0
 |[],_,_,_,h=>by cases h
 |a::l,i,e,j,h=>by
  unfold firstErr at h;by_cases c:f a=0
  ·rw[if_pos c]at h;exact firstErr_err h
  ·rw[if_neg c]at h;cases h;exact c
structure SheetD.Fit (x:SheetD):Prop where
 ok:x.Ok
 nd:x.names.lists.flatten.Nodup
 paths:∀p∈x.paths,(p.num x.stops).err=0
 doors:∀p∈x.doors,(p.num x.stops).err x.hz=0
 routes:∀p∈x.routes,(p.num x.stops).err=0
 trips:∀p∈x.trips,(p.num x.names.routes).err=0
 hazards:∀p∈x.hazards,(p.num x.stops x.names.paths).err x.hz=0
theorem fit_of_make {x:SheetD} (h:x.make.2.err=0):x.Fit:=by
 unfold SheetD.make at h;by_cases c:x.err=0
 ·rw[if_pos c]at h
  have hw:x.num.wrong.err=0:=by
   by_cases d:x.num.wrong.err=0
   ·exact d
   ·rw[if_neg d]at h;exact h
  have ok:=SheetD.err_zero.1 c;unfold WorldD.wrong at hw;cases h0:dups [] x.num.names.lists 0 with
  |some d=>rw[h0]at hw;have:=dups_err h0;rw[Option.getD_some]at hw;omega
  |none=>
  have key:∀{α:Type} {g:α->Int} {l:List α} {k:Int} {w:WrongD},((atKind k (firstErr g l 0)).getD w).err=0->(∀a∈l,g a=0)/\w.err=0:=λ{α g l k w} h=>by
   cases e:firstErr g l 0 with
   |some ej=>
    obtain⟨e1,j1⟩:=ej;rw[e]at h;exact absurd h (firstErr_err e)
   |none=>rw[e]at h;exact⟨firstErr_none e,h⟩
  rw[h0,Option.getD_none]at hw;obtain⟨k2,hw⟩:=key hw;obtain⟨k3,hw⟩:=key hw;obtain⟨k4,hw⟩:=key hw;obtain⟨k5,hw⟩:=key hw;obtain⟨k6,hw⟩:=key hw;have hnd:=dups_nodup h0 (by simp);rw[List.nil_append]at hnd;exact⟨ok,hnd,λp hp=>k2 _ (List.mem_map.2 ⟨p,hp,rfl⟩),λp hp=>k3 _ (List.mem_map.2 ⟨p,hp,rfl⟩),λp hp=>k4 _ (List.mem_map.2 ⟨p,hp,rfl⟩),λp hp=>k5 _ (List.mem_map.2 ⟨p,hp,rfl⟩),λp hp=>k6 _ (List.mem_map.2 ⟨p,hp,rfl⟩)⟩
 ·rw[if_neg c]at h
  exact absurd h c
def cut {α:Type} (l:List α) (k:Nat):List α:=l.take k++l.drop (k+1)
theorem twice {L:List (List Str)} (h:L.flatten.Nodup) {M:List (List Str)} {n:Nat} {l:List Str} {a:Str} (hl:L[n]? =some l) (hm:∀m,m<n->M[m]? =L[m]?) (hn:M[n]? =some (l++[a])) (ha:a∈l):dups [] M 0=some ⟨6,n,l.length⟩:=by
 have et:∀m,m<=n->M.take m=L.take m:=λm h=>by
  refine List.ext_getElem? λi=> ?_;rw[List.getElem?_take,List.getElem?_take];by_cases c:i<m
  ·rw[if_pos c,if_pos c];exact hm i (by omega)
  ·rw[if_neg c,if_neg c]
 have:=dups_some (L:=M) (seen:=[]) (k:=0) (n:=n) (l:=l++[a]) (j:=l.length) (a:=a) (λn' l' hn' hl'=>by
  have c:=clean_nodup (r:=[]) (flatten_take h ((hm n' hn').symm.trans hl'));rw[List.append_nil]at c;rw[List.nil_append,et n' (by omega)];exact c) hn (by rw[List.nil_append,et n (Nat.le_refl _)];exact clean_nodup (flatten_take h hl)) (by rw[List.getElem?_append_right (Nat.le_refl _),Nat.sub_self];rfl) (List.mem_append_right _ (by rw[List.take_append_of_le_length (Nat.le_refl _),List.take_length];exact ha))
 rw[this,Int.zero_add]
theorem SheetD.Ok.numNames {x:SheetD} (o:x.Ok):∀l∈x.num.names.lists,∀s∈l,NameOk s:=by
 intro l hl s hs;refine o.2.1 s ?_;unfold SheetD.all;simp only[List.mem_append]
 have hm:∀{α:Type} {g:α->Str} {f:α->List Str} {l:List α},(∀a,g a∈f a)->s∈l.map g->s∈l.flatMap f:=λh hs=>by
  obtain⟨a,ha,rfl⟩:=List.mem_map.1 hs;exact List.mem_flatMap.2 ⟨a,ha,h a⟩
 simp only[NamesD.lists,SheetD.num,SheetD.names,List.mem_cons,List.not_mem_nil,or_false]at hl;rcases hl with rfl|rfl|rfl|rfl|rfl|rfl|rfl
 ·cases hs
 ·exact .inl (.inl (.inl (.inl (.inl hs))))
 ·exact .inl (.inl (.inl (.inl (.inr (hm (λa=>by simp) hs)))))
 ·exact .inl (.inl (.inl (.inr (hm (λa=>by simp) hs))))
 ·exact .inl (.inl (.inr (hm (λa=>by simp) hs)))
 ·exact .inl (.inr (hm (λa=>by simp) hs))
 ·exact .inr (hm (λa=>by simp) hs)
theorem SheetD.Ok.numFew {x:SheetD} (o:x.Ok):(x.num.names.lists.flatten).length<4096:=by
 obtain⟨f1,f2,f3,f4,f5,f6⟩:=o.1;simp only[NamesD.lists,SheetD.num,SheetD.names,List.flatten_cons,List.flatten_nil,List.length_append,List.length_map,List.length_nil];omega
theorem SheetD.numLens (x:SheetD):x.num.names.paths.length=x.num.paths.length/\x.num.names.doors.length=x.num.doors.length/\x.num.names.routes.length=x.num.routes.length/\x.num.names.trips.length=x.num.trips.length/\x.num.names.hazards.length=x.num.hazards.length:=by
 refine⟨?_,?_,?_,?_,?_⟩<;>simp[SheetD.num,SheetD.names]
theorem SheetD.Ok.numRoutes {x:SheetD} (o:x.Ok):∀r∈x.num.routes,r.rides.length+1=r.stops.length/\r.stops.length<=1000:=by
 intro r hr;obtain⟨a,ha,rfl⟩:=List.mem_map.1 hr;obtain⟨h1,h2,h3,h4⟩:=o.2.2.2 a ha;simp only[RouteS.num,List.length_map];omega
end Go.CM.Tt

noncomputable section
namespace Go.CM.Tt
def inL (n:Int) (l:List Str):Prop:=0<=n/\n<l.length
def WorldD.whole (w:WorldD):Prop:=
 (w.names.paths.length=w.paths.length/\w.names.doors.length=w.doors.length/\w.names.routes.length=w.routes.length/\w.names.trips.length=w.trips.length/\w.names.hazards.length=w.hazards.length)/\
 (∀p∈w.paths,inL p.a w.names.stops/\inL p.b w.names.stops)/\(∀d∈w.doors,inL d.a w.names.stops/\inL d.b w.names.stops)/\(∀r∈w.routes,∀s∈r.stops,inL s w.names.stops)/\
 (∀t∈w.trips,inL t.route w.names.routes)/\(∀h∈w.hazards,inL h.on (if h.stop then w.names.stops else w.names.paths))
def atL (l:List Str) (n:Int):Str:=l.getD n.toNat []
def PathW.told (n:NamesD) (i:Nat) (p:PathW):PathS:=⟨n.paths.getD i [],atL n.stops p.a,atL n.stops p.b,p.len⟩
def DoorW.told (n:NamesD) (i:Nat) (d:DoorW):DoorS:=⟨n.doors.getD i [],atL n.stops d.a,atL n.stops d.b,d.len,d.times⟩
def RouteW.told (n:NamesD) (i:Nat) (r:RouteW):RouteS:=⟨n.routes.getD i [],r.stops.map (atL n.stops),r.rides,r.stays⟩
def TripW.told (n:NamesD) (i:Nat) (t:TripW):TripS:=⟨n.trips.getD i [],atL n.routes t.route,t.frm,t.evr,t.untl⟩
def HazW.told (n:NamesD) (i:Nat) (h:HazW):HazS:=⟨n.hazards.getD i [],atL (if h.stop then n.stops else n.paths) h.on,h.times⟩
def WorldD.told (w:WorldD):SheetD:=⟨w.hz,w.names.stops,w.paths.mapIdx (λi p=>p.told w.names i),w.doors.mapIdx (λi p=>p.told w.names i),w.routes.mapIdx (λi p=>p.told w.names i),w.trips.mapIdx (λi p=>p.told w.names i),w.hazards.mapIdx (λi p=>p.told w.names i)⟩
open Classical in
def WorldD.check (w:WorldD):WrongD:=if w.whole then w.told.make.2 else⟨2,0,0⟩
open Classical in
theorem atL_at {l:List Str} {j:Nat} (h:j<l.length):atL l (j:Int)=l[j]:=by
 unfold atL;rw[Int.toNat_natCast,List.getD_eq_getElem?_getD,List.getElem?_eq_getElem h];rfl
theorem getD_at {l:List Str} {j:Nat} (h:j<l.length):l.getD j []=l[j]:=by
 rw[List.getD_eq_getElem?_getD,List.getElem?_eq_getElem h];rfl
theorem hazNum_eq {x:SheetD} {p:HazS}:p.num x.stops x.names.paths=if 0<=place x.stops p.on then⟨true,place x.stops p.on,p.times⟩else⟨false,place x.names.paths p.on,p.times⟩:=rfl
end Go.CM.Tt
