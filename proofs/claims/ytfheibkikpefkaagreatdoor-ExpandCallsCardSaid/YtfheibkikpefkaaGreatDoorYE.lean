/- The small environment: the types and functions that are walked; what is known. No condition. (Printed by yenv.py.) -/
import Derived.Test.YtfheibkikpefkaaGreatDoorYA
import Derived.Test.YtfheibkikpefkaaGreatDoorXNa
import Derived.Test.YtfheibkikpefkaaGreatDoorProg
import Derived.Test.YtfheibkikpefkaaGreatDoorXU
set_option linter.unusedVariables false
set_option linter.unusedSimpArgs false
namespace Go.Proofs.YtfheibkikpefkaaGreatDoor
open Go Go.CM
noncomputable section
def aWb:List (Nat×TyS):=[(3,⟨.int .i64,1,8,[.int .i64 0],false,false,[]⟩),
 (4,⟨.bool,1,1,[.bool false],false,false,[]⟩),
 (2,⟨.int .i64,1,8,[.int .i64 0],false,false,[]⟩),
 (34,⟨.int .i64,1,8,[.int .i64 0],false,false,[]⟩),
 (22,⟨.slice 9,1,24,[.slice none 0 0 0],false,false,[]⟩),
 (31,⟨.struct [(2,0),(24,1),(25,7),(26,8),(27,9),(28,10),(29,11)],12,272,[.int .i64 0,.slice none 0 0 0,.slice none 0 0 0,.slice none 0 0 0,.slice none 0 0 0,.slice none 0 0 0,.slice none 0 0 0,.slice none 0 0 0,.slice none 0 0 0,.slice none 0 0 0,.slice none 0 0 0,.slice none 0 0 0],true,false,[]⟩),
 (70,⟨.slice 77,1,24,[.slice none 0 0 0],false,false,[]⟩),
 (9,⟨.string,1,16,[.str []],false,false,[]⟩),
 (43,⟨.slice 2,1,24,[.slice none 0 0 0],false,false,[]⟩),
 (28,⟨.slice 40,1,24,[.slice none 0 0 0],false,false,[]⟩),
 (82,⟨.struct [(2,0),(2,1),(2,2)],3,24,[.int .i64 0,.int .i64 0,.int .i64 0],true,true,[]⟩),
 (24,⟨.struct [(22,0),(22,1),(22,2),(22,3),(22,4),(22,5)],6,144,[.slice none 0 0 0,.slice none 0 0 0,.slice none 0 0 0,.slice none 0 0 0,.slice none 0 0 0,.slice none 0 0 0],true,false,[]⟩),
 (45,⟨.struct [(3,0),(3,1),(43,2),(43,3)],4,64,[.int .i64 0,.int .i64 0,.slice none 0 0 0,.slice none 0 0 0],true,false,[]⟩),
 (50,⟨.slice 3,1,24,[.slice none 0 0 0],false,false,[]⟩),
 (36,⟨.struct [(34,0),(3,1),(3,2)],3,24,[.int .i64 0,.int .i64 0,.int .i64 0],true,true,[]⟩),
 (52,⟨.struct [(50,0),(43,1),(43,2)],3,72,[.slice none 0 0 0,.slice none 0 0 0,.slice none 0 0 0],true,false,[]⟩),
 (63,⟨.slice 70,1,24,[.slice none 0 0 0],false,false,[]⟩),
 (66,⟨.struct [(2,0),(63,1),(64,2)],3,56,[.int .i64 0,.slice none 0 0 0,.slice none 0 0 0],true,false,[]⟩),
 (27,⟨.slice 52,1,24,[.slice none 0 0 0],false,false,[]⟩),
 (72,⟨.struct [(3,0),(3,1),(2,2),(4,3),(3,4),(70,5),(70,6)],7,88,[.int .i64 0,.int .i64 0,.int .i64 0,.bool false,.int .i64 0,.slice none 0 0 0,.slice none 0 0 0],true,false,[]⟩),
 (25,⟨.slice 74,1,24,[.slice none 0 0 0],false,false,[]⟩),
 (26,⟨.slice 88,1,24,[.slice none 0 0 0],false,false,[]⟩),
 (29,⟨.slice 84,1,24,[.slice none 0 0 0],false,false,[]⟩),
 (40,⟨.struct [(3,0),(2,1),(2,2),(2,3)],4,32,[.int .i64 0,.int .i64 0,.int .i64 0,.int .i64 0],true,true,[]⟩),
 (77,⟨.struct [(2,0),(2,1)],2,16,[.int .i64 0,.int .i64 0],true,false,[]⟩),
 (64,⟨.slice 72,1,24,[.slice none 0 0 0],false,false,[]⟩),
 (104,⟨.slice 158,1,24,[.slice none 0 0 0],false,false,[]⟩),
 (158,⟨.struct [(9,0),(22,1),(43,2),(43,3)],4,88,[.str [],.slice none 0 0 0,.slice none 0 0 0,.slice none 0 0 0],true,false,[]⟩),
 (108,⟨.struct [(2,0),(22,1),(102,2),(103,3),(104,4),(105,5),(106,6)],7,152,[.int .i64 0,.slice none 0 0 0,.slice none 0 0 0,.slice none 0 0 0,.slice none 0 0 0,.slice none 0 0 0,.slice none 0 0 0],true,false,[]⟩),
 (102,⟨.slice 154,1,24,[.slice none 0 0 0],false,false,[]⟩),
 (103,⟨.slice 156,1,24,[.slice none 0 0 0],false,false,[]⟩),
 (105,⟨.slice 160,1,24,[.slice none 0 0 0],false,false,[]⟩),
 (106,⟨.slice 162,1,24,[.slice none 0 0 0],false,false,[]⟩),
 (74,⟨.struct [(3,0),(3,1),(2,2)],3,24,[.int .i64 0,.int .i64 0,.int .i64 0],true,true,[]⟩),
 (84,⟨.struct [(4,0),(3,1),(82,2)],5,40,[.bool false,.int .i64 0,.int .i64 0,.int .i64 0,.int .i64 0],true,true,[]⟩),
 (88,⟨.struct [(3,0),(3,1),(2,2),(82,3)],6,48,[.int .i64 0,.int .i64 0,.int .i64 0,.int .i64 0,.int .i64 0,.int .i64 0],true,true,[]⟩),
 (154,⟨.struct [(9,0),(9,1),(9,2),(2,3)],4,56,[.str [],.str [],.str [],.int .i64 0],true,true,[]⟩),
 (156,⟨.struct [(9,0),(9,1),(9,2),(2,3),(82,4)],7,80,[.str [],.str [],.str [],.int .i64 0,.int .i64 0,.int .i64 0,.int .i64 0],true,true,[]⟩),
 (160,⟨.struct [(9,0),(9,1),(2,2),(2,3),(2,4)],5,56,[.str [],.str [],.int .i64 0,.int .i64 0,.int .i64 0],true,true,[]⟩),
 (162,⟨.struct [(9,0),(9,1),(82,2)],5,56,[.str [],.str [],.int .i64 0,.int .i64 0,.int .i64 0],true,true,[]⟩),
 (130,⟨.func,1,8,[.nilFunc],false,false,[]⟩),
 (204,⟨.pointer 31,1,8,[.ptr none],false,false,[]⟩),
 (252,⟨.pointer 257,1,8,[.ptr none],false,false,[("Add",none),("Len",none),("timetable/world.door",some (215,true)),("timetable/world.fine",some (213,true)),("timetable/world.hazard",some (218,true)),("timetable/world.path",some (214,true)),("timetable/world.route",some (216,true)),("timetable/world.times",some (234,true)),("timetable/world.trip",some (217,true))]⟩),
 (257,⟨.struct [(255,0),(204,1)],2,16,[.ptr none,.ptr none],true,false,[("Add",none),("Len",none)]⟩),
 (240,⟨.func,1,8,[.nilFunc],false,false,[]⟩),
 (141,⟨.struct [(72,0),(70,7)],8,112,[.int .i64 0,.int .i64 0,.int .i64 0,.bool false,.int .i64 0,.slice none 0 0 0,.slice none 0 0 0,.slice none 0 0 0],true,false,[("timetable/link.movers",some (93,false))]⟩),
 (5,⟨.int .u8,1,1,[.int .u8 0],false,false,[]⟩),
 (54,⟨.slice 45,1,24,[.slice none 0 0 0],false,false,[]⟩),
 (191,⟨.func,1,8,[.nilFunc],false,false,[]⟩),
 (229,⟨.pointer 24,1,8,[.ptr none],false,false,[]⟩),
 (253,⟨.pointer 281,1,8,[.ptr none],false,false,[("Add",some (212,true)),("Len",some (260,true))]⟩),
 (211,⟨.struct [(2,0),(2,1)],2,16,[.int .i64 0,.int .i64 0],true,false,[("timetable/window.ahead",some (165,false))]⟩),
 (212,⟨.slice 211,1,24,[.slice none 0 0 0],false,false,[]⟩),
 (125,⟨.map 128 70,1,8,[.map none],false,false,[]⟩),
 (128,⟨.struct [(4,0),(3,1)],2,16,[.bool false,.int .i64 0],true,false,[]⟩),
 (131,⟨.func,1,8,[.nilFunc],false,false,[]⟩),
 (132,⟨.func,1,8,[.nilFunc],false,false,[]⟩),
 (143,⟨.array 3 142,3,24,[.nilFunc,.nilFunc,.nilFunc],true,false,[]⟩),
 (172,⟨.func,1,8,[.nilFunc],false,false,[]⟩),
 (180,⟨.func,1,8,[.nilFunc],false,false,[]⟩),
 (184,⟨.slice 22,1,24,[.slice none 0 0 0],false,false,[]⟩),
 (189,⟨.int .u64,1,8,[.int .u64 0],false,false,[]⟩),
 (193,⟨.func,1,8,[.nilFunc],false,false,[]⟩),
 (195,⟨.func,1,8,[.nilFunc],false,false,[]⟩),
 (198,⟨.func,1,8,[.nilFunc],false,false,[]⟩),
 (200,⟨.func,1,8,[.nilFunc],false,false,[]⟩),
 (202,⟨.func,1,8,[.nilFunc],false,false,[]⟩),
 (207,⟨.func,1,8,[.nilFunc],false,false,[]⟩),
 (214,⟨.func,1,8,[.nilFunc],false,false,[]⟩),
 (217,⟨.func,1,8,[.nilFunc],false,false,[]⟩),
 (228,⟨.func,1,8,[.nilFunc],false,false,[]⟩),
 (261,⟨.array 7 260,7,56,[.ptr none,.ptr none,.ptr none,.ptr none,.ptr none,.ptr none,.ptr none],true,false,[]⟩),
 (277,⟨.map 9 3,1,8,[.map none],false,false,[]⟩),
 (279,⟨.struct [(22,0),(277,1)],2,32,[.slice none 0 0 0,.map none],true,false,[]⟩),
 (281,⟨.struct [(279,0)],2,32,[.slice none 0 0 0,.map none],true,false,[]⟩),
 (78,⟨.slice 4,1,24,[.slice none 0 0 0],false,false,[]⟩),
 (122,⟨.func,1,8,[.nilFunc],false,false,[]⟩),
 (166,⟨.func,1,8,[.nilFunc],false,false,[]⟩),
 (168,⟨.func,1,8,[.nilFunc],false,false,[]⟩),
 (206,⟨.func,1,8,[.nilFunc],false,false,[]⟩),
 (209,⟨.func,1,8,[.nilFunc],false,false,[]⟩),
 (215,⟨.func,1,8,[.nilFunc],false,false,[]⟩),
 (231,⟨.func,1,8,[.nilFunc],false,false,[]⟩),
 (233,⟨.func,1,8,[.nilFunc],false,false,[]⟩),
 (235,⟨.func,1,8,[.nilFunc],false,false,[]⟩),
 (237,⟨.func,1,8,[.nilFunc],false,false,[]⟩),
 (239,⟨.func,1,8,[.nilFunc],false,false,[]⟩),
 (242,⟨.func,1,8,[.nilFunc],false,false,[]⟩),
 (244,⟨.func,1,8,[.nilFunc],false,false,[]⟩),
 (247,⟨.func,1,8,[.nilFunc],false,false,[]⟩),
 (249,⟨.func,1,8,[.nilFunc],false,false,[]⟩),
 (251,⟨.func,1,8,[.nilFunc],false,false,[]⟩),
 (255,⟨.struct [(253,0)],1,8,[.ptr none],true,false,[("Add",none),("Len",none)]⟩),
 (260,⟨.pointer 22,1,8,[.ptr none],false,false,[]⟩),
 (266,⟨.array 7 265,7,56,[.nilFunc,.nilFunc,.nilFunc,.nilFunc,.nilFunc,.nilFunc,.nilFunc],true,false,[]⟩),
 (269,⟨.func,1,8,[.nilFunc],false,false,[]⟩),
 (142,⟨.func,1,8,[.nilFunc],false,false,[]⟩),
 (265,⟨.func,1,8,[.nilFunc],false,false,[]⟩)]
def aUp:List (Nat×FnS):=[(3,aB Tryz.f3),(4,aB Tryz.f4),(5,aB Tryz.f5),(6,aB Tryz.f6),(7,aB Tryz.f7),(8,aB Tryz.f8),(10,aB Tryz.f10),(11,aB Tryz.f11),(12,aB Tryz.f12),(13,aB Tryz.f13),(14,aB Tryz.f14),(15,aB Tryz.f15),(16,aB Tryz.f16),(17,aB Tryz.f17),(18,aB Tryz.f18),(19,aB Tryz.f19),(20,aB Tryz.f20),(21,aB Tryz.f21),(22,aB Tryz.f22),(23,aB Tryz.f23),(24,aB Tryz.f24),(25,aB Tryz.f25),(26,aB Tryz.f26),(27,aB Tryz.f27),(29,aB Tryz.f29),(30,aB Tryz.f30),(31,aB Tryz.f31),(32,aB Tryz.f32),(33,aB Tryz.f33),(34,aB Tryz.f34),(35,aB Tryz.f35),(36,aB Tryz.f36),(37,aB Tryz.f37),(38,aB Tryz.f38),(39,aB Tryz.f39),(40,aB Tryz.f40),(41,aB Tryz.f41),(42,aB Tryz.f42),(43,aB Tryz.f43),(44,aB Tryz.f44),(45,aB Tryz.f45),(46,aB Tryz.f46),(47,aB Tryz.f47),(48,aB Tryz.f48),(50,aB Tryz.f50),(51,aB Tryz.f51),(52,aB Tryz.f52),(53,aB Tryz.f53),(54,aB Tryz.f54),(55,aB Tryz.f55),(56,aB Tryz.f56),(57,aB Tryz.f57),(58,aB Tryz.f58),(59,aB Tryz.f59),(60,aB Tryz.f60),(61,aB Tryz.f61),(62,aB Tryz.f62),(63,aB Tryz.f63),(64,aB Tryz.f64),(65,aB Tryz.f65),(66,aB Tryz.f66),(67,aB Tryz.f67),(68,aB Tryz.f68),(69,aB Tryz.f69),(70,aB Tryz.f70),(71,aB Tryz.f71),(72,aB Tryz.f72),(74,aB Tryz.f74),(75,aB Tryz.f75),(76,aB Tryz.f76),(77,aB Tryz.f77),(78,aB Tryz.f78),(79,aB Tryz.f79),(80,aB Tryz.f80),(81,aB Tryz.f81),(82,aB Tryz.f82),(83,aB Tryz.f83),(84,aB Tryz.f84),(85,aB Tryz.f85),(86,aB Tryz.f86),(87,aB Tryz.f87),(88,aB Tryz.f88),(89,aB Tryz.f89),(90,aB Tryz.f90),(91,aB Tryz.f91),(92,aB Tryz.f92),(93,aB Tryz.f93),(94,aB Tryz.f94),(95,aB Tryz.f95),(96,aB Tryz.f96),(97,aB Tryz.f97),(98,aB Tryz.f98),(99,aB Tryz.f99),(100,aB Tryz.f100),(101,aB Tryz.f101),(102,aB Tryz.f102),(103,aB Tryz.f103),(104,aB Tryz.f104),(105,aB Tryz.f105),(106,aB Tryz.f106),(107,aB Tryz.f107),(108,aB Tryz.f108),(109,aB Tryz.f109),(110,aB Tryz.f110),(111,aB Tryz.f111),(112,aB Tryz.f112),(113,aB Tryz.f113),(114,aB Tryz.f114),(115,aB Tryz.f115),(116,aB Tryz.f116),(117,aB Tryz.f117),(118,aB Tryz.f118),(119,aB Tryz.f119),(120,aB Tryz.f120),(121,aB Tryz.f121),(122,aB Tryz.f122),(123,aB Tryz.f123),(124,aB Tryz.f124),(125,aB Tryz.f125),(126,aB Tryz.f126),(127,aB Tryz.f127),(128,aB Tryz.f128),(129,aB Tryz.f129),(130,aB Tryz.f130),(131,aB Tryz.f131),(132,aB Tryz.f132),(133,aB Tryz.f133),(134,aB Tryz.f134),(135,aB Tryz.f135),(136,aB Tryz.f136),(137,aB Tryz.f137),(138,aB Tryz.f138),(139,aB Tryz.f139),(140,aB Tryz.f140),(141,aB Tryz.f141),(142,aB Tryz.f142),(143,aB Tryz.f143),(144,aB Tryz.f144),(145,aB Tryz.f145),(146,aB Tryz.f146),(147,aB Tryz.f147),(148,aB Tryz.f148),(149,aB Tryz.f149),(150,aB Tryz.f150),(151,aB Tryz.f151),(152,aB Tryz.f152),(153,aB Tryz.f153),(154,aB Tryz.f154),(155,aB Tryz.f155),(156,aB Tryz.f156),(157,aB Tryz.f157),(158,aB Tryz.f158),(159,aB Tryz.f159),(160,aB Tryz.f160),(161,aB Tryz.f161),(162,aB Tryz.f162),(163,aB Tryz.f163),(164,aB Tryz.f164),(165,aB Tryz.f165),(166,aB Tryz.f166),(167,aB Tryz.f167),(168,aB Tryz.f168),(169,aB Tryz.f169),(170,aB Tryz.f170),(171,aB Tryz.f171),(172,aB Tryz.f172),(173,aB Tryz.f173),(174,aB Tryz.f174),(175,aB Tryz.f175),(176,aB Tryz.f176),(177,aB Tryz.f177),(178,aB Tryz.f178),(179,aB Tryz.f179),(180,aB Tryz.f180),(181,aB Tryz.f181),(182,aB Tryz.f182),(183,aB Tryz.f183),(184,aB Tryz.f184),(185,aB Tryz.f185),(186,aB Tryz.f186),(187,aB Tryz.f187),(188,aB Tryz.f188),(189,aB Tryz.f189),(190,aB Tryz.f190),(191,aB Tryz.f191),(192,aB Tryz.f192),(193,aB Tryz.f193),(194,aB Tryz.f194),(195,aB Tryz.f195),(196,aB Tryz.f196),(197,aB Tryz.f197),(198,aB Tryz.f198),(199,aB Tryz.f199),(200,aB Tryz.f200),(201,aB Tryz.f201),(202,aB Tryz.f202),(203,aB Tryz.f203),(204,aB Tryz.f204),(205,aB Tryz.f205),(206,aB Tryz.f206),(207,aB Tryz.f207),(208,aB Tryz.f208),(209,aB Tryz.f209),(210,aB Tryz.f210),(211,aB Tryz.f211),(212,aB Tryz.f212),(213,aB Tryz.f213),(214,aB Tryz.f214),(215,aB Tryz.f215),(216,aB Tryz.f216),(217,aB Tryz.f217),(218,aB Tryz.f218),(219,aB Tryz.f219),(220,aB Tryz.f220),(221,aB Tryz.f221),(222,aB Tryz.f222),(223,aB Tryz.f223),(224,aB Tryz.f224),(225,aB Tryz.f225),(226,aB Tryz.f226),(227,aB Tryz.f227),(228,aB Tryz.f228),(229,aB Tryz.f229),(230,aB Tryz.f230),(231,aB Tryz.f231),(232,aB Tryz.f232),(233,aB Tryz.f233),(234,aB Tryz.f234),(235,aB Tryz.f235),(236,aB Tryz.f236),(237,aB Tryz.f237),(239,aB Tryz.f239),(260,aB Tryz.f260)]
def ascii:List Int:=[0,0,0,0,0,0,0,0,0,1,1,1,1,1,0,0,0,0,0,0,0,0,0,0,0,0,0,0,0,0,0,0,1]++List.replicate 223 0
def rows:List (Nat×List CM.CV):=[(0,ascii.map (CM.CV.int .u8))]
def qU:Nat:=1
def aLr:KE:=⟨9,[],[],.bool true,[]⟩
def aCl:KE:=⟨28,[],[],.bool true,[]⟩
def aHa:KE:=⟨238,[.str [104,111,114,105,122,111,110,32,115,116,111,112,32,112,97,116,104,32,100,111,111,114,32,114,111,117,116,101,32,116,114,105,112,32,104,97,122,97,114,100,32,102,114,111,109,32,101,118,101,114,121,32,111,112,101,110,32,99,108,111,115,101,100,32,111,102,32,111,110,32,117,110,116,105,108,32,115,116,97,121]],[],.slice (some (qU,0)) 15 15 0,[Tt.reserved.map λs=> .str s]⟩
def known:List KE:=[aLr,aCl,aHa]
def E1:Env:=⟨lk aWb,lk aUp,qU,known,rows⟩
end
end Go.Proofs.YtfheibkikpefkaaGreatDoor

namespace Go.Proofs.YtfheibkikpefkaaGreatDoor
open Go Go.CM Go.CM.Tt
noncomputable section
set_option maxHeartbeats 4000000
def RH (h:Heap):Prop:=bU h rows=true/\∀r∈rows,r.1<h.next
theorem RH.ext {h h':Heap} (r:RH h) (x:Ext h h'):RH h':=⟨sY (λq hq=>x.old _ (r.2 q hq)) r.1,λq hq=>Nat.lt_of_lt_of_le (r.2 q hq) x.next⟩
theorem aHg {h:Heap} {tm:Tm} {Q:R->Prop} (c:Int) (q:Q (.val (.int .i64 (sN c)) h)):W E1 (.call (.fn 225 [] []) [.int .u8 c]) tm h Q:=by
 refine W.fn (s:=aB Tryz.f225) rfl rfl rfl rfl ?_;unfold sN at q;by_cases c1:97<=c/\c<=122
 ·rw[if_pos c1]at q
  repeat refine W.g ?_
  exact q
 rw[if_neg c1]at q;by_cases c2:48<=c/\c<=57
 ·rw[if_pos c2]at q
  repeat refine W.g ?_
  exact q
 rw[if_neg c2]at q;by_cases c3:c=45
 ·rw[if_pos (.inl c3)]at q
  repeat refine W.g ?_
  exact q
 by_cases c4:c=95
 ·rw[if_pos (.inr c4)]at q
  repeat refine W.g ?_
  exact q
 rw[if_neg (λh=>h.elim c3 c4)]at q;by_cases c5:97<=c
 ·repeat refine W.g ?_
  exact q
 by_cases c6:48<=c
 ·repeat refine W.g ?_
  exact q
 repeat refine W.g ?_
 exact q
theorem aGx {h:Heap} {tm:Tm} {Q:R->Prop} {v:CV} {l:List Str} (s:Str) (sl:Sl h v l) (hm:l.length<=1099511627776)
  (q:Q (.val (.int .i64 (place l s)) h)):W E1 (.call (.fn 232 [] []) [v,.str s]) tm h Q:=by
 refine W.fn (s:=aB Tryz.f232) rfl rfl rfl rfl ?_;repeat refine W.g ?_
 refine W.loop (σ:=Nat) (λk tm h'=>h'=h/\tm.look 0=v/\tm.look 1= .str s/\tm.look 7= .int .i64 (l.length:Int)/\tm.look 8= .int .i64 (k:Int)/\k<=l.length/\∀j,j<k->∀a,l[j]? =some a->a≠s) (λk=>l.length-k) ?_ (s:=0)
  ⟨rfl,rfl,rfl,rfl,rfl,Nat.zero_le _,λj hj=>by omega⟩
 rintro k tm h' ⟨rfl,w0,w1,w7,w8,hk,hn⟩;obtain⟨T,rfl⟩:=cE w0 w1 w7 w8;clear w0 w1 w7 w8;by_cases c1:k<l.length
 ·repeat refine W.g ?_
  refine cH λi_ o_ L_=> ?_;by_cases c2:s=l[k]
  ·repeat refine W.g ?_
   rw[pP (l:=l) (s:=s) (k:=k) (by rw[List.getElem?_eq_getElem c1,<-c2]) hn]at q;exact q
  ·repeat refine W.g ?_
   refine⟨k+1,aI c1,rfl,rfl,rfl,rfl,rfl,c1,λj hj a ha=> ?_⟩;by_cases e:j=k
   ·subst e
    rw[List.getElem?_eq_getElem c1]at ha;cases ha;exact λh=>c2 h.symm
   ·exact hn j (by omega) a ha
 ·repeat refine W.g ?_
  rw[pQ (l:=l) (s:=s) λj a ha=>hn j (by have:=(List.getElem?_eq_some_iff.1 ha).1;omega) a ha]at q;exact q
theorem aFj {h:Heap} {tm:Tm} {Q:R->Prop} {v:CV} {l:List Str} (s:Str) (sl:Sl h v l) (hm:l.length<=1099511627776)
  (q:∀b:Bool,(b=true↔s∈l)->Q (.val (.bool b) h)):W E1 (.call (.fn 237 [] []) [v,.str s]) tm h Q:=by
 refine W.fn (s:=aB Tryz.f237) rfl rfl rfl rfl ?_;repeat refine W.g ?_
 refine W.call rfl rfl rfl (aGx s sl hm ?_);by_cases c:0<=place l s
 ·repeat refine W.g ?_
  exact q true (Iff.intro (λ_=>jZ.1 c) (λ_=>rfl))
 ·repeat refine W.g ?_
  exact q false (Iff.intro (λh=>by cases h) (λh=>absurd (jZ.2 h) c))
theorem aEg {h:Heap} {tm:Tm} {Q:R->Prop} (s:Str) (rh:RH h)
  (q:∀h' (b:Bool),Ext h h'->(b=true↔s∈reserved)->Q (.val (.bool b) h')):W E1 (.call (.fn 226 [] []) [.str s]) tm h Q:=by
 refine W.fn (s:=aB Tryz.f226) rfl rfl rfl rfl ?_;repeat refine W.g ?_
 refine W.call rfl rfl rfl (aNt (v:= .slice (some (h.next,0)) 15 15 0) (news:=[reserved.map λs=> .str s]) rfl rh.1 ?_);have X:Ext h (kAdd h [reserved.map λs=> .str s]):=aCq _ _
 have sl:Sl (kAdd h [reserved.map λs=> .str s]) (.slice (some (h.next,0)) 15 15 0) reserved:=by
  refine bZ Flat.iff (.inr (.inr ⟨h.next,0,15,0,_,false,rfl,Nat.lt_succ_self _,aZ _ _,λj e he=> ?_,Nat.le_refl _,.inl rfl⟩))
  have hz:∀e∈reserved.map (Flat.enc:Str->List CV),e.length=1:=λe he=>by
   obtain⟨c,_,rfl⟩:=List.mem_map.1 he;rfl
  refine⟨hz e (List.mem_of_getElem? he),?_⟩;exact dX hz he
 generalize kAdd h [reserved.map λs=> .str s]=H at X sl;repeat refine W.g ?_
 refine W.call rfl rfl rfl (aFj s sl (by decide) λb hb=> ?_);repeat refine W.g ?_
 exact q H b X hb
theorem aWn {h:Heap} {tm:Tm} {Q:R->Prop} (c:Int) (q:Q (.val (.bool (decide (c≠0))) h)):W E1 (.call (.fn 228 [] []) [.int .i64 c]) tm h Q:=by
 refine W.fn (s:=aB Tryz.f228) rfl rfl rfl rfl ?_;repeat refine W.g ?_
 exact q
theorem aWi {h:Heap} {tm:Tm} {Q:R->Prop} (s:Str) (hm:s.length<=24)
  (q:∀n:Nat,n<=s.length->(∀j c,j<n->s[j]? =some c->fS c.toNat≠0)->(∀c,s[n]? =some c->fS c.toNat=0)->Q (.val (.int .i64 (n:Int)) h)):W E1 (.call (.fn 227 [] []) [.str s,.fn 228 [] []]) tm h Q:=by
 refine W.fn (s:=aB Tryz.f227) rfl rfl rfl rfl ?_;repeat refine W.g ?_
 refine W.loop (σ:=Nat) (λk tm h'=>h'=h/\tm.look 0= .str s/\tm.look 1= .fn 228 [] []/\tm.look 5= .int .i64 (k:Int)/\k<=s.length/\∀j c,j<k->s[j]? =some c->fS c.toNat≠0) (λk=>s.length-k) ?_ (s:=0)
  ⟨rfl,rfl,rfl,rfl,Nat.zero_le _,λj c hj=>by omega⟩
 rintro k tm h' ⟨rfl,w0,w1,w5,hk,hn⟩;obtain⟨T,rfl⟩:=cF w0 w1 w5;clear w0 w1 w5;by_cases c1:k<s.length
 ·repeat refine W.g ?_
  refine aHk (j:=k) (List.getElem?_eq_getElem c1) rfl rfl rfl rfl rfl rfl rfl ?_;refine W.call rfl rfl rfl (aHg _ ?_);repeat refine W.g ?_
  refine W.call rfl rfl rfl (aWn _ ?_);rw[pX];by_cases c2:fS s[k].toNat≠0
  ·repeat refine W.g ?_
   refine⟨k+1,aI c1,rfl,rfl,rfl,rfl,c1,λj c hj hc=> ?_⟩;by_cases e:j=k
   ·subst e
    rw[List.getElem?_eq_getElem c1]at hc;cases hc;exact c2
   ·exact hn j c (by omega) hc
  ·repeat refine W.g ?_
   refine q k (by omega) hn λc hc=> ?_;rw[List.getElem?_eq_getElem c1]at hc;cases hc;exact Classical.byContradiction c2
 ·repeat refine W.g ?_
  exact q k hk hn λc hc=>by
   have:=(List.getElem?_eq_some_iff.1 hc).1;omega
theorem aEs {h:Heap} {tm:Tm} {Q:R->Prop} (s:Str) (rh:RH h)
  (q:∀h' (b:Bool),Ext h h'->(b=true↔fC s)->Q (.val (.bool b) h')):W E1 (.call (.fn 181 [] []) [.str s]) tm h Q:=by
 refine W.fn (s:=aB Tryz.f181) rfl rfl rfl rfl ?_;by_cases c0:s=[]
 ·repeat refine W.g ?_
  exact q h false (Ext.refl _) (Iff.intro (λh=>by cases h) (λh=>absurd c0 h.1))
 by_cases c1:24<s.length
 ·repeat refine W.g ?_
  exact q h false (Ext.refl _) (Iff.intro (λh=>by cases h) (λh=>by have:=h.2.1;omega))
 have hpos:0<s.length:=List.length_pos_iff.2 c0;repeat refine W.g ?_
 refine aHk (j:=0) (List.getElem?_eq_getElem hpos) rfl rfl rfl rfl rfl rfl rfl ?_;refine W.call rfl rfl rfl (aHg _ ?_);rw[pX];by_cases c2:fS s[0].toNat≠1
 ·repeat refine W.g ?_
  exact q h false (Ext.refl _) (Iff.intro (λh=>by cases h) (λh=>absurd (h.2.2.1 _ (List.getElem?_eq_getElem hpos)) c2))
 repeat refine W.g ?_
 refine W.call rfl rfl rfl (aEg s rh λH b X hb=> ?_);cases b
 ·repeat refine W.g ?_
  refine W.call rfl rfl rfl (aWi s (by omega) λn hn h1 h2=> ?_);by_cases c3:(n:Int)=(s.length:Int)
  ·repeat refine W.g ?_
   refine q H true X (Iff.intro (λ_=>⟨c0,by omega,λc hc=> ?_,λhr=>(by cases hb.2 hr),λc hc=> ?_⟩) (λ_=>rfl))
   ·rw[List.getElem?_eq_getElem hpos]at hc
    cases hc;exact Classical.byContradiction c2
   ·obtain⟨j,hj⟩:=List.getElem?_of_mem hc
    have:=(List.getElem?_eq_some_iff.1 hj).1;exact h1 j c (by omega) hj
  ·repeat refine W.g ?_
   refine q H false X (Iff.intro (λh=>by cases h) (λh=> ?_));have hlt:n<s.length:=by omega
   exact absurd (h2 _ (List.getElem?_eq_getElem hlt)) (h.2.2.2.2 _ (List.getElem_mem hlt))
 ·repeat refine W.g ?_
  exact q H false X (Iff.intro (λh=>by cases h) (λh=>absurd (hb.1 rfl) h.2.2.2.1))
end
end Go.Proofs.YtfheibkikpefkaaGreatDoor

namespace Go.Proofs.YtfheibkikpefkaaGreatDoor
open Go Go.CM Go.CM.Tt
noncomputable section
set_option maxHeartbeats 8000000
theorem aBh {h:Heap} {tm:Tm} {Q:R->Prop} (lo x hi:Int) (q:Q (.val (.bool (decide (lo<=x/\x<=hi))) h)):W E1 (.call (.fn 119 [] []) [.int .i64 lo,.int .i64 x,.int .i64 hi]) tm h Q:=by
 refine W.fn (s:=aB Tryz.f119) rfl rfl rfl rfl ?_;by_cases c:lo<=x
 ·by_cases d:x<=hi
  ·rw[decide_eq_true (⟨c,d⟩:lo<=x/\x<=hi)]at q
   repeat refine W.g ?_
   exact q
  ·rw[decide_eq_false (λh=>d h.2:¬(lo<=x/\x<=hi))]at q
   repeat refine W.g ?_
   exact q
 ·rw[decide_eq_false (λh=>c h.1:¬(lo<=x/\x<=hi))]at q
  repeat refine W.g ?_
  exact q
theorem kY {h:Heap} {tm:Tm} {Q:R->Prop} (t:Int) (q:∀e:Int,(e=0↔TickOk t)->Q (.val (.int .i64 e) h)):W E1 (.call (.fn 81 [] []) [.int .i64 t]) tm h Q:=by
 refine W.fn (s:=aB Tryz.f81) rfl rfl rfl rfl ?_;repeat refine W.g ?_
 refine W.call rfl rfl rfl (aBh 0 t 1099511627776 ?_);by_cases c:0<=t/\t<=1099511627776
 ·repeat refine W.g ?_
  exact q 0 (Iff.intro (λ_=>c) (λ_=>rfl))
 ·repeat refine W.g ?_
  exact q 9 (Iff.intro (λh=>by cases h) (λh=>absurd h c))
theorem aLz {h:Heap} {tm:Tm} {Q:R->Prop} {v:CV} {l:List Str} (f:Nat) (first caps:List CV) (P:Str->Prop) (sl:Sl h v l) (hm:l.length<=1099511627776)
  (hf:∀d,d∈l->∀(tm:Tm) (h':Heap) (Q:R->Prop),Ext h h'->(∀h2 (b:Bool),Ext h' h2->(b=true↔P d)->Q (.val (.bool b) h2))->W E1 (.call (.fn f first caps) [.str d]) tm h' Q)
  (q:∀h' (r:Int),Ext h h'->(0<=r↔∃d,d∈l/\P d)->Q (.val (.int .i64 r) h')):W E1 (.call (.fn 224 [] []) [v,.fn f first caps]) tm h Q:=by
 refine W.fn (s:=aB Tryz.f224) rfl rfl rfl rfl ?_;repeat refine W.g ?_
 refine W.loop (σ:=Nat) (λk tm h'=>Ext h h'/\tm.look 0=v/\tm.look 1= .fn f first caps/\tm.look 7= .int .i64 (l.length:Int)/\tm.look 8= .int .i64 (k:Int)/\k<=l.length/\∀j,j<k->∀a,l[j]? =some a->¬P a) (λk=>l.length-k) ?_ (s:=0)
  ⟨Ext.refl _,rfl,rfl,rfl,rfl,Nat.zero_le _,λj hj=>by omega⟩
 rintro k tm h' ⟨X,w0,w1,w7,w8,hk,hn⟩;obtain⟨T,rfl⟩:=cE w0 w1 w7 w8;clear w0 w1 w7 w8;by_cases c1:k<l.length
 ·repeat refine W.g ?_
  refine cH λi_ o_ L_=> ?_;repeat refine W.g ?_
  refine W.call rfl rfl rfl (hf l[k] (List.getElem_mem c1) _ _ _ X λh2 b X2 hb=> ?_);cases b
  ·repeat refine W.g ?_
   refine⟨k+1,aI c1,X.trans X2,rfl,rfl,rfl,rfl,c1,λj hj a ha hp=> ?_⟩;by_cases e:j=k
   ·subst e
    rw[List.getElem?_eq_getElem c1]at ha;cases ha;cases hb.2 hp
   ·exact hn j (by omega) a ha hp
  ·repeat refine W.g ?_
   exact q _ _ (X.trans X2) (Iff.intro (λ_=>⟨l[k],List.getElem_mem c1,hb.1 rfl⟩) (λ_=>by omega))
 ·repeat refine W.g ?_
  refine q _ _ X (Iff.intro (λh=>by omega) (λh=> ?_));obtain⟨d,hd,hp⟩:=h;obtain⟨j,hj⟩:=List.getElem?_of_mem hd;exact absurd hp (hn j (by have:=(List.getElem?_eq_some_iff.1 hj).1;omega) d hj)
theorem aMr {h:Heap} {tm:Tm} {Q:R->Prop} {v:CV} {l:List Str} (f:Nat) (first caps:List CV) (P:Str->Prop) (sl:Sl h v l) (hm:l.length<=1099511627776)
  (hf:∀d,d∈l->∀(tm:Tm) (h':Heap) (Q:R->Prop),Ext h h'->(∀h2 (b:Bool),Ext h' h2->(b=true↔P d)->Q (.val (.bool b) h2))->W E1 (.call (.fn f first caps) [.str d]) tm h' Q)
  (q:∀h' (b:Bool),Ext h h'->(b=true↔∃d,d∈l/\P d)->Q (.val (.bool b) h')):W E1 (.call (.fn 178 [] []) [v,.fn f first caps]) tm h Q:=by
 refine W.fn (s:=aB Tryz.f178) rfl rfl rfl rfl ?_;repeat refine W.g ?_
 refine W.call rfl rfl rfl (aLz f first caps P sl hm hf λh' r X hr=> ?_);by_cases c:0<=r
 ·repeat refine W.g ?_
  exact q h' true X (Iff.intro (λ_=>hr.1 c) (λ_=>rfl))
 ·repeat refine W.g ?_
  exact q h' false X (Iff.intro (λh=>by cases h) (λh=>absurd (hr.2 h) c))
theorem aMa {h:Heap} {tm:Tm} {Q:R->Prop} {v:CV} {l:List Int} (f:Nat) (first caps:List CV) (P:Int->Prop) (sl:Sl h v l) (hm:l.length<=1099511627776)
  (hf:∀d,d∈l->∀(tm:Tm) (h':Heap) (Q:R->Prop),Ext h h'->(∀h2 (b:Bool),Ext h' h2->(b=true↔P d)->Q (.val (.bool b) h2))->W E1 (.call (.fn f first caps) [.int .i64 d]) tm h' Q)
  (q:∀h' (r:Int),Ext h h'->(0<=r↔∃d,d∈l/\P d)->Q (.val (.int .i64 r) h')):W E1 (.call (.fn 229 [] []) [v,.fn f first caps]) tm h Q:=by
 refine W.fn (s:=aB Tryz.f229) rfl rfl rfl rfl ?_;repeat refine W.g ?_
 refine W.loop (σ:=Nat) (λk tm h'=>Ext h h'/\tm.look 0=v/\tm.look 1= .fn f first caps/\tm.look 7= .int .i64 (l.length:Int)/\tm.look 8= .int .i64 (k:Int)/\k<=l.length/\∀j,j<k->∀a,l[j]? =some a->¬P a) (λk=>l.length-k) ?_ (s:=0)
  ⟨Ext.refl _,rfl,rfl,rfl,rfl,Nat.zero_le _,λj hj=>by omega⟩
 rintro k tm h' ⟨X,w0,w1,w7,w8,hk,hn⟩;obtain⟨T,rfl⟩:=cE w0 w1 w7 w8;clear w0 w1 w7 w8;by_cases c1:k<l.length
 ·repeat refine W.g ?_
  refine cH λi_ o_ L_=> ?_;repeat refine W.g ?_
  refine W.call rfl rfl rfl (hf l[k] (List.getElem_mem c1) _ _ _ X λh2 b X2 hb=> ?_);cases b
  ·repeat refine W.g ?_
   refine⟨k+1,aI c1,X.trans X2,rfl,rfl,rfl,rfl,c1,λj hj a ha hp=> ?_⟩;by_cases e:j=k
   ·subst e
    rw[List.getElem?_eq_getElem c1]at ha;cases ha;cases hb.2 hp
   ·exact hn j (by omega) a ha hp
  ·repeat refine W.g ?_
   exact q _ _ (X.trans X2) (Iff.intro (λ_=>⟨l[k],List.getElem_mem c1,hb.1 rfl⟩) (λ_=>by omega))
 ·repeat refine W.g ?_
  refine q _ _ X (Iff.intro (λh=>by omega) (λh=> ?_));obtain⟨d,hd,hp⟩:=h;obtain⟨j,hj⟩:=List.getElem?_of_mem hd;exact absurd hp (hn j (by have:=(List.getElem?_eq_some_iff.1 hj).1;omega) d hj)
theorem aMs {h:Heap} {tm:Tm} {Q:R->Prop} {v:CV} {l:List Int} (f:Nat) (first caps:List CV) (P:Int->Prop) (sl:Sl h v l) (hm:l.length<=1099511627776)
  (hf:∀d,d∈l->∀(tm:Tm) (h':Heap) (Q:R->Prop),Ext h h'->(∀h2 (b:Bool),Ext h' h2->(b=true↔P d)->Q (.val (.bool b) h2))->W E1 (.call (.fn f first caps) [.int .i64 d]) tm h' Q)
  (q:∀h' (b:Bool),Ext h h'->(b=true↔∃d,d∈l/\P d)->Q (.val (.bool b) h')):W E1 (.call (.fn 182 [] []) [v,.fn f first caps]) tm h Q:=by
 refine W.fn (s:=aB Tryz.f182) rfl rfl rfl rfl ?_;repeat refine W.g ?_
 refine W.call rfl rfl rfl (aMa f first caps P sl hm hf λh' r X hr=> ?_);by_cases c:0<=r
 ·repeat refine W.g ?_
  exact q h' true X (Iff.intro (λ_=>hr.1 c) (λ_=>rfl))
 ·repeat refine W.g ?_
  exact q h' false X (Iff.intro (λh=>by cases h) (λh=>absurd (hr.2 h) c))
theorem aFa {h:Heap} {tm:Tm} {Q:R->Prop} {v:CV} {l:List RouteS} (f:Nat) (first caps:List CV) (P:RouteS->Prop) (sl:Sl h v l) (hm:l.length<=1099511627776)
  (hf:∀d,d∈l->∀e,Rp.R h e d->∀(tm:Tm) (h':Heap) (Q:R->Prop),Ext h h'->(∀h2 (b:Bool),Ext h' h2->(b=true↔P d)->Q (.val (.bool b) h2))->W E1 (.call (.fn f first caps) [.agg e]) tm h' Q)
  (q:∀h' (r:Int),Ext h h'->(0<=r↔∃d,d∈l/\P d)->Q (.val (.int .i64 r) h')):W E1 (.call (.fn 231 [] []) [v,.fn f first caps]) tm h Q:=by
 refine W.fn (s:=aB Tryz.f231) rfl rfl rfl rfl ?_;repeat refine W.g ?_
 refine W.loop (σ:=Nat) (λk tm h'=>Ext h h'/\tm.look 0=v/\tm.look 1= .fn f first caps/\tm.look 7= .int .i64 (l.length:Int)/\tm.look 8= .int .i64 (k:Int)/\k<=l.length/\∀j,j<k->∀a,l[j]? =some a->¬P a) (λk=>l.length-k) ?_ (s:=0)
  ⟨Ext.refl _,rfl,rfl,rfl,rfl,Nat.zero_le _,λj hj=>by omega⟩
 rintro k tm h' ⟨X,w0,w1,w7,w8,hk,hn⟩;obtain⟨T,rfl⟩:=cE w0 w1 w7 w8;clear w0 w1 w7 w8;by_cases c1:k<l.length
 ·repeat refine W.g ?_
  refine dI (by assumption) c1 rfl rfl rfl rfl rfl rfl rfl λi_ o_ e L_ r_=> ?_;have hlen:=Rp.len r_;repeat refine W.g ?_
  refine W.call rfl rfl rfl (hf l[k] (List.getElem_mem c1) e r_ _ _ _ X λh2 b X2 hb=> ?_);cases b
  ·repeat refine W.g ?_
   refine⟨k+1,aI c1,X.trans X2,rfl,rfl,rfl,rfl,c1,λj hj a ha hp=> ?_⟩;by_cases e:j=k
   ·subst e
    rw[List.getElem?_eq_getElem c1]at ha;cases ha;cases hb.2 hp
   ·exact hn j (by omega) a ha hp
  ·repeat refine W.g ?_
   exact q _ _ (X.trans X2) (Iff.intro (λ_=>⟨l[k],List.getElem_mem c1,hb.1 rfl⟩) (λ_=>by omega))
 ·repeat refine W.g ?_
  refine q _ _ X (Iff.intro (λh=>by omega) (λh=> ?_));obtain⟨d,hd,hp⟩:=h;obtain⟨j,hj⟩:=List.getElem?_of_mem hd;exact absurd hp (hn j (by have:=(List.getElem?_eq_some_iff.1 hj).1;omega) d hj)
theorem aFl {h:Heap} {tm:Tm} {Q:R->Prop} {v:CV} {l:List RouteS} (f:Nat) (first caps:List CV) (P:RouteS->Prop) (sl:Sl h v l) (hm:l.length<=1099511627776)
  (hf:∀d,d∈l->∀e,Rp.R h e d->∀(tm:Tm) (h':Heap) (Q:R->Prop),Ext h h'->(∀h2 (b:Bool),Ext h' h2->(b=true↔P d)->Q (.val (.bool b) h2))->W E1 (.call (.fn f first caps) [.agg e]) tm h' Q)
  (q:∀h' (b:Bool),Ext h h'->(b=true↔∃d,d∈l/\P d)->Q (.val (.bool b) h')):W E1 (.call (.fn 185 [] []) [v,.fn f first caps]) tm h Q:=by
 refine W.fn (s:=aB Tryz.f185) rfl rfl rfl rfl ?_;repeat refine W.g ?_
 refine W.call rfl rfl rfl (aFa f first caps P sl hm hf λh' r X hr=> ?_);by_cases c:0<=r
 ·repeat refine W.g ?_
  exact q h' true X (Iff.intro (λ_=>hr.1 c) (λ_=>rfl))
 ·repeat refine W.g ?_
  exact q h' false X (Iff.intro (λh=>by cases h) (λh=>absurd (hr.2 h) c))
end
end Go.Proofs.YtfheibkikpefkaaGreatDoor
