/-
  Parts of a proof. No condition.
-/
import Derived.Test.YtoekkmbbbllogaaGreatQAq
import Derived.Test.YtoekkmbbbllogaaGreatQAs
set_option linter.unusedSimpArgs false
set_option linter.unusedVariables false
noncomputable section
namespace Go.Aw
def FOK (l:List (Nat × Func)):Prop:=∀ p∈l,Go.Proofs.Tryz.prog.funcs[p.1]? = some p.2
theorem FOK.nil:FOK []:=fun _ h=>by cases h
theorem FOK.cons {n:Nat}{f:Func}{l:List (Nat × Func)}(h:Go.Proofs.Tryz.prog.funcs[n]? = some f)(hl:FOK l):FOK ((n,f)::l):=List.forall_mem_cons.2 ⟨h,hl⟩
theorem FOK.append {l m:List (Nat × Func)}(h:FOK l)(hm:FOK m):FOK (l++m):=fun p hp=>(List.mem_append.1 hp).elim (h p) (hm p)
noncomputable def ftL0:List (Nat × Func):=[(133,Go.Proofs.Tryz.f133),(101,Go.Proofs.Tryz.f101),(55,Go.Proofs.Tryz.f55),(102,Go.Proofs.Tryz.f102),(58,Go.Proofs.Tryz.f58),(114,Go.Proofs.Tryz.f114),(106,Go.Proofs.Tryz.f106),(81,Go.Proofs.Tryz.f81),(59,Go.Proofs.Tryz.f59),(68,Go.Proofs.Tryz.f68),(100,Go.Proofs.Tryz.f100),(74,Go.Proofs.Tryz.f74),(65,Go.Proofs.Tryz.f65),(60,Go.Proofs.Tryz.f60),(64,Go.Proofs.Tryz.f64),(99,Go.Proofs.Tryz.f99),(54,Go.Proofs.Tryz.f54),(152,Go.Proofs.Tryz.f152),(135,Go.Proofs.Tryz.f135),(132,Go.Proofs.Tryz.f132)]
theorem ftL0_ok:FOK ftL0:=.cons Go.Proofs.Tryz.func133 (.cons Go.Proofs.Tryz.func101 (.cons Go.Proofs.Tryz.func55 (.cons Go.Proofs.Tryz.func102 (.cons Go.Proofs.Tryz.func58 (.cons Go.Proofs.Tryz.func114 (.cons Go.Proofs.Tryz.func106 (.cons Go.Proofs.Tryz.func81 (.cons Go.Proofs.Tryz.func59 (.cons Go.Proofs.Tryz.func68 (.cons Go.Proofs.Tryz.func100 (.cons Go.Proofs.Tryz.func74 (.cons Go.Proofs.Tryz.func65 (.cons Go.Proofs.Tryz.func60 (.cons Go.Proofs.Tryz.func64 (.cons Go.Proofs.Tryz.func99 (.cons Go.Proofs.Tryz.func54 (.cons Go.Proofs.Tryz.func152 (.cons Go.Proofs.Tryz.func135 (.cons Go.Proofs.Tryz.func132 (.nil))))))))))))))))))))
noncomputable def ftL1:List (Nat × Func):=[(111,Go.Proofs.Tryz.f111),(75,Go.Proofs.Tryz.f75),(32,Go.Proofs.Tryz.f32),(22,Go.Proofs.Tryz.f22),(127,Go.Proofs.Tryz.f127),(119,Go.Proofs.Tryz.f119),(83,Go.Proofs.Tryz.f83),(163,Go.Proofs.Tryz.f163),(143,Go.Proofs.Tryz.f143),(140,Go.Proofs.Tryz.f140),(136,Go.Proofs.Tryz.f136),(134,Go.Proofs.Tryz.f134),(117,Go.Proofs.Tryz.f117),(113,Go.Proofs.Tryz.f113),(110,Go.Proofs.Tryz.f110),(107,Go.Proofs.Tryz.f107),(105,Go.Proofs.Tryz.f105),(88,Go.Proofs.Tryz.f88),(86,Go.Proofs.Tryz.f86),(85,Go.Proofs.Tryz.f85)]
theorem ftL1_ok:FOK ftL1:=.cons Go.Proofs.Tryz.func111 (.cons Go.Proofs.Tryz.func75 (.cons Go.Proofs.Tryz.func32 (.cons Go.Proofs.Tryz.func22 (.cons Go.Proofs.Tryz.func127 (.cons Go.Proofs.Tryz.func119 (.cons Go.Proofs.Tryz.func83 (.cons Go.Proofs.Tryz.func163 (.cons Go.Proofs.Tryz.func143 (.cons Go.Proofs.Tryz.func140 (.cons Go.Proofs.Tryz.func136 (.cons Go.Proofs.Tryz.func134 (.cons Go.Proofs.Tryz.func117 (.cons Go.Proofs.Tryz.func113 (.cons Go.Proofs.Tryz.func110 (.cons Go.Proofs.Tryz.func107 (.cons Go.Proofs.Tryz.func105 (.cons Go.Proofs.Tryz.func88 (.cons Go.Proofs.Tryz.func86 (.cons Go.Proofs.Tryz.func85 (.nil))))))))))))))))))))
noncomputable def ftL2:List (Nat × Func):=[(76,Go.Proofs.Tryz.f76),(73,Go.Proofs.Tryz.f73),(69,Go.Proofs.Tryz.f69),(40,Go.Proofs.Tryz.f40),(38,Go.Proofs.Tryz.f38),(141,Go.Proofs.Tryz.f141),(126,Go.Proofs.Tryz.f126),(125,Go.Proofs.Tryz.f125),(124,Go.Proofs.Tryz.f124),(123,Go.Proofs.Tryz.f123),(121,Go.Proofs.Tryz.f121),(109,Go.Proofs.Tryz.f109),(108,Go.Proofs.Tryz.f108),(97,Go.Proofs.Tryz.f97),(96,Go.Proofs.Tryz.f96),(63,Go.Proofs.Tryz.f63),(62,Go.Proofs.Tryz.f62),(61,Go.Proofs.Tryz.f61),(51,Go.Proofs.Tryz.f51),(49,Go.Proofs.Tryz.f49)]
theorem ftL2_ok:FOK ftL2:=.cons Go.Proofs.Tryz.func76 (.cons Go.Proofs.Tryz.func73 (.cons Go.Proofs.Tryz.func69 (.cons Go.Proofs.Tryz.func40 (.cons Go.Proofs.Tryz.func38 (.cons Go.Proofs.Tryz.func141 (.cons Go.Proofs.Tryz.func126 (.cons Go.Proofs.Tryz.func125 (.cons Go.Proofs.Tryz.func124 (.cons Go.Proofs.Tryz.func123 (.cons Go.Proofs.Tryz.func121 (.cons Go.Proofs.Tryz.func109 (.cons Go.Proofs.Tryz.func108 (.cons Go.Proofs.Tryz.func97 (.cons Go.Proofs.Tryz.func96 (.cons Go.Proofs.Tryz.func63 (.cons Go.Proofs.Tryz.func62 (.cons Go.Proofs.Tryz.func61 (.cons Go.Proofs.Tryz.func51 (.cons Go.Proofs.Tryz.func49 (.nil))))))))))))))))))))
noncomputable def ftL3:List (Nat × Func):=[(34,Go.Proofs.Tryz.f34),(30,Go.Proofs.Tryz.f30),(26,Go.Proofs.Tryz.f26),(23,Go.Proofs.Tryz.f23),(19,Go.Proofs.Tryz.f19),(162,Go.Proofs.Tryz.f162),(161,Go.Proofs.Tryz.f161),(153,Go.Proofs.Tryz.f153),(15,Go.Proofs.Tryz.f15),(139,Go.Proofs.Tryz.f139),(138,Go.Proofs.Tryz.f138),(137,Go.Proofs.Tryz.f137),(118,Go.Proofs.Tryz.f118),(116,Go.Proofs.Tryz.f116),(115,Go.Proofs.Tryz.f115),(112,Go.Proofs.Tryz.f112),(104,Go.Proofs.Tryz.f104),(2,Go.Proofs.Tryz.f2),(3,Go.Proofs.Tryz.f3),(4,Go.Proofs.Tryz.f4)]
theorem ftL3_ok:FOK ftL3:=.cons Go.Proofs.Tryz.func34 (.cons Go.Proofs.Tryz.func30 (.cons Go.Proofs.Tryz.func26 (.cons Go.Proofs.Tryz.func23 (.cons Go.Proofs.Tryz.func19 (.cons Go.Proofs.Tryz.func162 (.cons Go.Proofs.Tryz.func161 (.cons Go.Proofs.Tryz.func153 (.cons Go.Proofs.Tryz.func15 (.cons Go.Proofs.Tryz.func139 (.cons Go.Proofs.Tryz.func138 (.cons Go.Proofs.Tryz.func137 (.cons Go.Proofs.Tryz.func118 (.cons Go.Proofs.Tryz.func116 (.cons Go.Proofs.Tryz.func115 (.cons Go.Proofs.Tryz.func112 (.cons Go.Proofs.Tryz.func104 (.cons Go.Proofs.Tryz.func2 (.cons Go.Proofs.Tryz.func3 (.cons Go.Proofs.Tryz.func4 (.nil))))))))))))))))))))
noncomputable def ftL4:List (Nat × Func):=[(5,Go.Proofs.Tryz.f5),(6,Go.Proofs.Tryz.f6),(7,Go.Proofs.Tryz.f7),(8,Go.Proofs.Tryz.f8),(9,Go.Proofs.Tryz.f9),(10,Go.Proofs.Tryz.f10),(11,Go.Proofs.Tryz.f11),(12,Go.Proofs.Tryz.f12),(13,Go.Proofs.Tryz.f13),(14,Go.Proofs.Tryz.f14),(16,Go.Proofs.Tryz.f16),(17,Go.Proofs.Tryz.f17),(18,Go.Proofs.Tryz.f18),(20,Go.Proofs.Tryz.f20),(21,Go.Proofs.Tryz.f21),(24,Go.Proofs.Tryz.f24),(25,Go.Proofs.Tryz.f25),(27,Go.Proofs.Tryz.f27),(28,Go.Proofs.Tryz.f28),(29,Go.Proofs.Tryz.f29)]
theorem ftL4_ok:FOK ftL4:=.cons Go.Proofs.Tryz.func5 (.cons Go.Proofs.Tryz.func6 (.cons Go.Proofs.Tryz.func7 (.cons Go.Proofs.Tryz.func8 (.cons Go.Proofs.Tryz.func9 (.cons Go.Proofs.Tryz.func10 (.cons Go.Proofs.Tryz.func11 (.cons Go.Proofs.Tryz.func12 (.cons Go.Proofs.Tryz.func13 (.cons Go.Proofs.Tryz.func14 (.cons Go.Proofs.Tryz.func16 (.cons Go.Proofs.Tryz.func17 (.cons Go.Proofs.Tryz.func18 (.cons Go.Proofs.Tryz.func20 (.cons Go.Proofs.Tryz.func21 (.cons Go.Proofs.Tryz.func24 (.cons Go.Proofs.Tryz.func25 (.cons Go.Proofs.Tryz.func27 (.cons Go.Proofs.Tryz.func28 (.cons Go.Proofs.Tryz.func29 (.nil))))))))))))))))))))
noncomputable def ftL5:List (Nat × Func):=[(31,Go.Proofs.Tryz.f31),(33,Go.Proofs.Tryz.f33),(35,Go.Proofs.Tryz.f35),(36,Go.Proofs.Tryz.f36),(37,Go.Proofs.Tryz.f37),(39,Go.Proofs.Tryz.f39),(41,Go.Proofs.Tryz.f41),(42,Go.Proofs.Tryz.f42),(43,Go.Proofs.Tryz.f43),(44,Go.Proofs.Tryz.f44),(45,Go.Proofs.Tryz.f45),(46,Go.Proofs.Tryz.f46),(47,Go.Proofs.Tryz.f47),(48,Go.Proofs.Tryz.f48),(50,Go.Proofs.Tryz.f50),(52,Go.Proofs.Tryz.f52),(53,Go.Proofs.Tryz.f53),(56,Go.Proofs.Tryz.f56),(57,Go.Proofs.Tryz.f57),(66,Go.Proofs.Tryz.f66)]
theorem ftL5_ok:FOK ftL5:=.cons Go.Proofs.Tryz.func31 (.cons Go.Proofs.Tryz.func33 (.cons Go.Proofs.Tryz.func35 (.cons Go.Proofs.Tryz.func36 (.cons Go.Proofs.Tryz.func37 (.cons Go.Proofs.Tryz.func39 (.cons Go.Proofs.Tryz.func41 (.cons Go.Proofs.Tryz.func42 (.cons Go.Proofs.Tryz.func43 (.cons Go.Proofs.Tryz.func44 (.cons Go.Proofs.Tryz.func45 (.cons Go.Proofs.Tryz.func46 (.cons Go.Proofs.Tryz.func47 (.cons Go.Proofs.Tryz.func48 (.cons Go.Proofs.Tryz.func50 (.cons Go.Proofs.Tryz.func52 (.cons Go.Proofs.Tryz.func53 (.cons Go.Proofs.Tryz.func56 (.cons Go.Proofs.Tryz.func57 (.cons Go.Proofs.Tryz.func66 (.nil))))))))))))))))))))
noncomputable def ftL6:List (Nat × Func):=[(67,Go.Proofs.Tryz.f67),(70,Go.Proofs.Tryz.f70),(71,Go.Proofs.Tryz.f71),(72,Go.Proofs.Tryz.f72),(77,Go.Proofs.Tryz.f77),(78,Go.Proofs.Tryz.f78),(79,Go.Proofs.Tryz.f79),(80,Go.Proofs.Tryz.f80),(82,Go.Proofs.Tryz.f82),(84,Go.Proofs.Tryz.f84),(87,Go.Proofs.Tryz.f87),(89,Go.Proofs.Tryz.f89),(90,Go.Proofs.Tryz.f90),(91,Go.Proofs.Tryz.f91),(92,Go.Proofs.Tryz.f92),(93,Go.Proofs.Tryz.f93),(94,Go.Proofs.Tryz.f94),(95,Go.Proofs.Tryz.f95),(98,Go.Proofs.Tryz.f98),(103,Go.Proofs.Tryz.f103)]
theorem ftL6_ok:FOK ftL6:=.cons Go.Proofs.Tryz.func67 (.cons Go.Proofs.Tryz.func70 (.cons Go.Proofs.Tryz.func71 (.cons Go.Proofs.Tryz.func72 (.cons Go.Proofs.Tryz.func77 (.cons Go.Proofs.Tryz.func78 (.cons Go.Proofs.Tryz.func79 (.cons Go.Proofs.Tryz.func80 (.cons Go.Proofs.Tryz.func82 (.cons Go.Proofs.Tryz.func84 (.cons Go.Proofs.Tryz.func87 (.cons Go.Proofs.Tryz.func89 (.cons Go.Proofs.Tryz.func90 (.cons Go.Proofs.Tryz.func91 (.cons Go.Proofs.Tryz.func92 (.cons Go.Proofs.Tryz.func93 (.cons Go.Proofs.Tryz.func94 (.cons Go.Proofs.Tryz.func95 (.cons Go.Proofs.Tryz.func98 (.cons Go.Proofs.Tryz.func103 (.nil))))))))))))))))))))
noncomputable def ftL7:List (Nat × Func):=[(120,Go.Proofs.Tryz.f120),(122,Go.Proofs.Tryz.f122),(128,Go.Proofs.Tryz.f128),(129,Go.Proofs.Tryz.f129),(130,Go.Proofs.Tryz.f130),(131,Go.Proofs.Tryz.f131),(142,Go.Proofs.Tryz.f142),(144,Go.Proofs.Tryz.f144),(145,Go.Proofs.Tryz.f145),(146,Go.Proofs.Tryz.f146),(147,Go.Proofs.Tryz.f147),(148,Go.Proofs.Tryz.f148),(149,Go.Proofs.Tryz.f149),(150,Go.Proofs.Tryz.f150),(151,Go.Proofs.Tryz.f151),(154,Go.Proofs.Tryz.f154),(155,Go.Proofs.Tryz.f155),(156,Go.Proofs.Tryz.f156),(157,Go.Proofs.Tryz.f157),(158,Go.Proofs.Tryz.f158)]
theorem ftL7_ok:FOK ftL7:=.cons Go.Proofs.Tryz.func120 (.cons Go.Proofs.Tryz.func122 (.cons Go.Proofs.Tryz.func128 (.cons Go.Proofs.Tryz.func129 (.cons Go.Proofs.Tryz.func130 (.cons Go.Proofs.Tryz.func131 (.cons Go.Proofs.Tryz.func142 (.cons Go.Proofs.Tryz.func144 (.cons Go.Proofs.Tryz.func145 (.cons Go.Proofs.Tryz.func146 (.cons Go.Proofs.Tryz.func147 (.cons Go.Proofs.Tryz.func148 (.cons Go.Proofs.Tryz.func149 (.cons Go.Proofs.Tryz.func150 (.cons Go.Proofs.Tryz.func151 (.cons Go.Proofs.Tryz.func154 (.cons Go.Proofs.Tryz.func155 (.cons Go.Proofs.Tryz.func156 (.cons Go.Proofs.Tryz.func157 (.cons Go.Proofs.Tryz.func158 (.nil))))))))))))))))))))
noncomputable def ftL8:List (Nat × Func):=[(159,Go.Proofs.Tryz.f159),(160,Go.Proofs.Tryz.f160),(164,Go.Proofs.Tryz.f164),(165,Go.Proofs.Tryz.f165),(166,Go.Proofs.Tryz.f166),(167,Go.Proofs.Tryz.f167),(168,Go.Proofs.Tryz.f168),(169,Go.Proofs.Tryz.f169),(170,Go.Proofs.Tryz.f170),(171,Go.Proofs.Tryz.f171),(172,Go.Proofs.Tryz.f172),(173,Go.Proofs.Tryz.f173),(174,Go.Proofs.Tryz.f174),(175,Go.Proofs.Tryz.f175),(176,Go.Proofs.Tryz.f176),(177,Go.Proofs.Tryz.f177)]
theorem ftL8_ok:FOK ftL8:=.cons Go.Proofs.Tryz.func159 (.cons Go.Proofs.Tryz.func160 (.cons Go.Proofs.Tryz.func164 (.cons Go.Proofs.Tryz.func165 (.cons Go.Proofs.Tryz.func166 (.cons Go.Proofs.Tryz.func167 (.cons Go.Proofs.Tryz.func168 (.cons Go.Proofs.Tryz.func169 (.cons Go.Proofs.Tryz.func170 (.cons Go.Proofs.Tryz.func171 (.cons Go.Proofs.Tryz.func172 (.cons Go.Proofs.Tryz.func173 (.cons Go.Proofs.Tryz.func174 (.cons Go.Proofs.Tryz.func175 (.cons Go.Proofs.Tryz.func176 (.cons Go.Proofs.Tryz.func177 (.nil))))))))))))))))
noncomputable def ftL:List (Nat × Func):=ftL0++(ftL1++(ftL2++(ftL3++(ftL4++(ftL5++(ftL6++(ftL7++(ftL8))))))))
theorem ftL_ok:FOK ftL:=FOK.append ftL0_ok (FOK.append ftL1_ok (FOK.append ftL2_ok (FOK.append ftL3_ok (FOK.append ftL4_ok (FOK.append ftL5_ok (FOK.append ftL6_ok (FOK.append ftL7_ok ftL8_ok)))))))
def plL:List (Nat × List (Nat × Plan)):=[
 (8,[(12,⟨[0,1,2,3,4,5,6,7,8,9,10,11,12,13,14,15,16,17,18,19,20,21,22,23,24,25,26,27,28,29,30,31,32,33,34,35,36,37,38],[],[],[]⟩)]),
 (9,[(11,⟨[0,1,2,3,4,5,6,7,8,9,10,11,12,13,14,15,16,17,18],[19,20],[(21,true),(22,false)],[]⟩),(24,⟨[0,1,2,3,4,5,6,7,8,9,10],[],[(11,false),(12,false),(13,false),(14,false)],[]⟩)]),
 (12,[(18,⟨[0,1,2,3,4,5,6,7,8,9,10,11,12],[],[(13,false)],[]⟩)]),
 (14,[(5,⟨[0,1,2,3,4,5,6,7,8,9,10,11,12,13,14,15,16,17,18,19,20],[],[],[]⟩)]),
 (17,[(13,⟨[0,1,2,3,4,5,6,7,8,9,10,11,12],[],[(13,false),(14,false),(15,false)],[]⟩)]),
 (18,[(11,⟨[0,1,2,3,4,5,6,7,8,9],[10],[(11,false)],[]⟩),(15,⟨[0,1,2,3,4,5,6,7,8,9],[],[],[]⟩),(17,⟨[0,1,2,3,4,5,6,7,8,9],[10],[(11,false)],[]⟩),(19,⟨[0,1,2,3,4,5,6,7,8,9,10,11,12,13,14,15,16,17,18,19,20,21,22,23],[],[],[]⟩)]),
 (19,[(6,⟨[0,1,2,3,4,5,6,7,8,9,10,11],[],[],[]⟩),(7,⟨[0,1,2,3,4,5,6,7,8,9,10,11,12,13,14,15,16,17,18,19,20,21,22,23,24,25,26,27],[],[],[]⟩)]),
 (20,[(1,⟨[0,1,2,3,4,5,6,7,8,9,10,11,12],[],[],[]⟩)]),
 (21,[(9,⟨[0,1,2,3,4,5,6,7,8,9,10,11,12,13,14,15,16,17,18,19,20,21,22],[],[],[]⟩),(17,⟨[0,1,2,3,4,5,6,7,8,9,10,11,12],[],[],[]⟩)]),
 (22,[(10,⟨[0,1,2,3,4,5,6,7,8,9],[],[],[]⟩)]),
 (27,[(27,⟨[0,1,2,3,4,5,6,7,8,9,10],[],[(11,false),(12,false),(13,false)],[]⟩)]),
 (29,[(6,⟨[0,1,2,3,4,5,6,7,8],[],[],[]⟩)]),
 (30,[(6,⟨[0,1,2,3,4,5,6,7,8],[],[],[]⟩)]),
 (31,[(9,⟨[0,1,2,3,4,5],[],[(6,false),(7,false),(8,false)],[]⟩),(11,⟨[0,1,2,3,4,5,6,7,8,9,10,11,12,13,14,15],[],[],[]⟩),(12,⟨[0,1,2,3,4,5,6,7,8,9,10,11,12,13,14,15],[],[],[]⟩),(15,⟨[0,1,2,3,4,5,6,7,8,9,10,11,12,13,14,15,16,17,18,19,20,21],[],[(22,false),(23,false),(24,false)],[]⟩)]),
 (32,[(5,⟨[0,1,2,3,4,5,6,7,8,9,10,11],[],[],[]⟩),(11,⟨[0,1,2,3,4,5,6,7,8,9,10,11,12],[],[],[]⟩)]),
 (35,[(7,⟨[0,1,2,3,4,5,6,7,8,9,10,11,12,13,14,15,16,17,18,19,20,21,22,23,24,25],[],[],[]⟩)]),
 (36,[(5,⟨[0,1,2,3,4,5,6,7,8,9,10,11,12,13,14,15,16,17,18,19,20,21],[],[],[]⟩)]),
 (39,[(5,⟨[0,1,2,3,4,5],[],[(6,false),(7,false)],[]⟩)]),
 (41,[(1,⟨[0,1,2,3,4,5,6,7,8,9,10,11,12,13,14,15],[],[],[]⟩),(10,⟨[0,1,2,3,4,5,6,7,8,9,10,11,12,13,14,15],[],[],[]⟩)]),
 (42,[(1,⟨[0,1,2,3,4,5,6,7,8,9,10,11,12],[],[(13,false)],[]⟩)]),
 (46,[(8,⟨[0,1,2,3],[4,5],[(6,true),(7,false)],[]⟩)]),
 (52,[(10,⟨[0,1,2,3,4,5,6,7,8,9],[],[],[]⟩)]),
 (57,[(6,⟨[0,1,2,3,4,5,6,7,8],[],[],[]⟩)]),
 (62,[(6,⟨[0,1,2,3,4,5,6,7,8],[],[],[]⟩)]),
 (63,[(4,⟨[0,1,2,3,4,5,6,7,8,9,10,11,12,13,14,15,16],[17,18],[(19,true),(20,false)],[]⟩),(5,⟨[0,1,2,3,4,5,6,7,8,9,10,11,12,13,14,15,16,17,18,19,20,21,22,23],[],[],[]⟩)]),
 (64,[(5,⟨[0,1,2,3,4,5,6,7,8,9,10,11,12,13,14,15,16,17,18,19,20,21,22,23],[],[],[]⟩)]),
 (65,[(13,⟨[0,1,2,3,4,5,6,7,8,9,10,11,12,13,14,15,16,17,18,19,20,21,22,23,24,25,26,27],[],[],[]⟩)]),
 (67,[(5,⟨[0,1,2,3,4,5,6,7,8,9],[],[],[]⟩),(16,⟨[0,1,2,3,4,5,6,7,8,9],[],[],[]⟩),(29,⟨[0,1,2,3,4,5,6,7,8,9],[],[],[]⟩),(30,⟨[0,1,2,3,4,5,6,7,8,9],[],[],[]⟩),(46,⟨[0,1,2,3,4,5,6,7,8,9,10,11,12,13,14,15],[],[],[]⟩)]),
 (68,[(9,⟨[0,1,2,3,4,5,6,7,8,9,10,11,12,13,14,15],[],[],[]⟩),(10,⟨[0,1,2,3,4,5,6,7,8,9,10,11,12,13,14,15],[],[],[]⟩)]),
 (71,[(1,⟨[0,1,2,3,4,5,6,7,8,9],[],[(10,false),(11,false),(12,false)],[]⟩)]),
 (72,[(6,⟨[0,1,2,3,4,5,6,7,8,9],[],[],[]⟩),(11,⟨[0,1,2,3,4,5,6,7,8,9],[],[],[]⟩)]),
 (73,[(5,⟨[0,1,2,3,4,5,6,7,8,9,10,11,12,13,14,15,16,17,18,19],[],[],[]⟩)]),
 (74,[(3,⟨[0,1,2,3,4,5,6,7,8,9,10,11,12],[],[(13,false),(14,false),(15,false)],[]⟩)]),
 (78,[(2,⟨[0,1,2,3],[],[(4,true),(5,false)],[]⟩),(3,⟨[0,1,2,3],[],[(4,true),(5,false)],[]⟩)]),
 (81,[(1,⟨[0,1,2,3,4,5,6,7,8,9],[],[(10,false),(11,false),(12,false)],[]⟩)]),
 (83,[(6,⟨[0,1,2,3,4,5,6,7,8,9],[],[],[]⟩),(11,⟨[0,1,2,3,4,5,6,7,8,9],[],[],[]⟩)]),
 (85,[(4,⟨[0,1,2,3,4,5,6],[],[(7,false)],[]⟩)]),
 (88,[(1,⟨[0,1,2,3,4,5],[],[(6,false),(7,false),(8,false)],[]⟩)]),
 (89,[(4,⟨[0,1,2,3,4,5],[],[],[]⟩)]),
 (90,[(7,⟨[0,1,2,3,4,5,6,7],[],[],[]⟩)]),
 (95,[(4,⟨[0,1,2,3,4,5,6,7,8,9],[10],[(11,false)],[]⟩)]),
 (96,[(17,⟨[0,1,2,3,4,5,6,7,8,9,10,11,12,13,14,15,16],[],[],[]⟩)]),
 (98,[(9,⟨[0,1,2,3,4,5,6,7,8,9,10,11,12,13,14,15,16,17,18,19,20,21,22,23,24,25,26,27,28,29,30,31,32,33],[],[],[]⟩)]),
 (99,[(1,⟨[0,1,2,3,4,5,6,7,8,9,10,11,12,13,14,15],[],[],[]⟩)]),
 (103,[(6,⟨[0,1,2,3,4,5,6,7,8,9],[],[],[]⟩),(11,⟨[0,1,2,3,4,5,6,7,8,9],[],[],[]⟩)]),
 (104,[(17,⟨[0,1,2,3,4,5,6,7,8,9,10,11,12,13,14],[],[],[]⟩)]),
 (109,[(17,⟨[0,1,2,3,4,5,6,7,8,9,10,11,12,13,14,15,16],[],[],[]⟩)]),
 (113,[(17,⟨[0,1,2,3,4,5,6,7,8,9,10,11,12,13,14,15,16],[],[],[]⟩)]),
 (115,[(2,⟨[0,1,2,3],[],[(4,false),(5,false)],[]⟩)]),
 (118,[(4,⟨[0,1,2,3,4,5,6,7,8,9,10,11,12,13,14,15,16],[],[],[]⟩),(6,⟨[0,1,2,3,4,5,6,7,8,9,10,11,12,13,14],[],[(15,false),(16,false),(17,false)],[]⟩)]),
 (119,[(10,⟨[0,1,2,3,4,5,6,7,8,9,10,11,12,13,14,15,16],[],[(17,false),(18,false),(19,false)],[]⟩)]),
 (120,[(10,⟨[0,1,2,3,4,5,6,7,8,9,10,11,12,13,14,15,16],[],[(17,false),(18,false),(19,false)],[]⟩)]),
 (122,[(3,⟨[0,1,2,3,4,5,6,7,8,9,10,11,12],[],[(13,false),(14,false),(15,false)],[]⟩)]),
 (123,[(5,⟨[0,1,2,3,4,5,6,7,8,9,10,11,12,13,14,15,16,17],[],[],[]⟩),(11,⟨[0,1,2,3,4,5,6,7,8,9,10,11,12,13,14],[],[(15,false),(16,false),(17,false)],[]⟩),(16,⟨[0,1,2,3,4,5,6,7,8,9,10,11,12],[],[],[]⟩),(17,⟨[0,1,2,3,4,5,6,7,8,9,10,11,12,13,14],[],[(15,false),(16,false),(17,false)],[]⟩),(22,⟨[0,1,2,3,4,5,6,7,8,9,10,11,12],[],[],[]⟩),(23,⟨[0,1,2,3,4,5,6,7,8,9,10,11,12,13,14],[],[(15,false),(16,false),(17,false)],[]⟩)]),
 (124,[(1,⟨[0,1,2,3,4,5,6,7,8,9,10,11,12],[],[(13,false),(14,false),(15,false)],[]⟩),(3,⟨[0,1,2,3,4,5,6,7,8,9,10,11,12,13,14,15,16],[],[],[]⟩),(5,⟨[0,1,2,3,4,5,6,7,8,9,10,11,12,13,14,15],[],[],[]⟩),(8,⟨[0,1,2,3,4,5,6,7,8,9,10,11,12],[],[(13,false),(14,false),(15,false)],[]⟩)]),
 (125,[(1,⟨[0,1,2,3,4,5,6,7,8,9,10,11,12],[],[(13,false),(14,false),(15,false)],[]⟩),(3,⟨[0,1,2,3,4,5,6,7,8,9,10,11,12,13,14,15],[],[],[]⟩),(5,⟨[0,1,2,3,4,5,6,7,8,9,10,11,12,13,14,15,16],[],[],[]⟩),(8,⟨[0,1,2,3,4,5,6,7,8,9,10,11,12],[],[(13,false),(14,false),(15,false)],[]⟩),(10,⟨[0,1,2,3,4,5,6,7,8,9,10,11,12],[],[(13,false),(14,false),(15,false)],[]⟩),(13,⟨[0,1,2,3,4,5,6,7,8,9,10,11,12,13,14,15],[],[],[]⟩),(15,⟨[0,1,2,3,4,5,6,7,8,9,10,11,12,13,14,15,16],[],[],[]⟩),(18,⟨[0,1,2,3,4,5,6,7,8,9,10,11,12],[],[(13,false),(14,false),(15,false)],[]⟩),(21,⟨[0,1,2,3,4,5,6,7,8,9,10,11,12],[],[(13,false),(14,false),(15,false)],[]⟩)]),
 (128,[(6,⟨[0,1,2,3,4,5,6],[],[],[]⟩),(7,⟨[0,1,2,3,4,5,6],[],[],[]⟩),(12,⟨[0,1,2,3,4,5,6,7,8,9,10,11],[],[(12,false)],[]⟩)]),
 (131,[(4,⟨[0,1,2,3,4,5,6,7,8,9,10,11,12,13,14],[],[],[]⟩),(6,⟨[0,1,2,3,4,5,6,7,8,9,10,11,12,13,14],[],[(15,false),(16,false),(17,false)],[]⟩)]),
 (132,[(10,⟨[0,1,2,3,4,5,6,7,8,9,10,11,12,13,14,15,16],[],[(17,false),(18,false),(19,false)],[]⟩)]),
 (133,[(10,⟨[0,1,2,3,4,5,6,7,8,9,10,11,12,13,14,15,16],[],[(17,false),(18,false),(19,false)],[]⟩)]),
 (135,[(3,⟨[0,1,2,3,4,5,6,7,8,9,10,11,12],[],[(13,false),(14,false),(15,false)],[]⟩)]),
 (136,[(5,⟨[0,1,2,3,4,5,6,7,8,9,10,11,12,13,14,15],[],[],[]⟩),(11,⟨[0,1,2,3,4,5,6,7,8,9,10,11,12,13,14],[],[(15,false),(16,false),(17,false)],[]⟩),(16,⟨[0,1,2,3,4,5,6,7,8,9,10],[],[],[]⟩),(17,⟨[0,1,2,3,4,5,6,7,8,9,10,11,12,13,14],[],[(15,false),(16,false),(17,false)],[]⟩),(22,⟨[0,1,2,3,4,5,6,7,8,9,10],[],[],[]⟩),(23,⟨[0,1,2,3,4,5,6,7,8,9,10,11,12,13,14],[],[(15,false),(16,false),(17,false)],[]⟩)]),
 (138,[(1,⟨[0,1,2,3,4,5,6,7,8,9,10,11,12],[],[(13,false),(14,false),(15,false)],[]⟩),(3,⟨[0,1,2,3,4,5,6,7,8,9,10,11,12,13,14],[],[],[]⟩),(5,⟨[0,1,2,3,4,5,6,7,8,9,10,11,12,13],[],[],[]⟩),(8,⟨[0,1,2,3,4,5,6,7,8,9,10,11,12],[],[(13,false),(14,false),(15,false)],[]⟩)]),
 (139,[(1,⟨[0,1,2,3,4,5,6,7,8,9,10,11,12],[],[(13,false),(14,false),(15,false)],[]⟩),(3,⟨[0,1,2,3,4,5,6,7,8,9,10,11,12,13],[],[],[]⟩),(5,⟨[0,1,2,3,4,5,6,7,8,9,10,11,12,13,14],[],[],[]⟩),(8,⟨[0,1,2,3,4,5,6,7,8,9,10,11,12],[],[(13,false),(14,false),(15,false)],[]⟩),(10,⟨[0,1,2,3,4,5,6,7,8,9,10,11,12],[],[(13,false),(14,false),(15,false)],[]⟩),(13,⟨[0,1,2,3,4,5,6,7,8,9,10,11,12,13],[],[],[]⟩),(15,⟨[0,1,2,3,4,5,6,7,8,9,10,11,12,13,14],[],[],[]⟩),(18,⟨[0,1,2,3,4,5,6,7,8,9,10,11,12],[],[(13,false),(14,false),(15,false)],[]⟩),(21,⟨[0,1,2,3,4,5,6,7,8,9,10,11,12],[],[(13,false),(14,false),(15,false)],[]⟩)]),
 (141,[(4,⟨[0,1,2,3,4,5,6,7,8,9,10,11,12,13,14,15,16],[],[],[]⟩),(6,⟨[0,1,2,3,4,5,6,7,8,9,10,11,12,13,14],[],[(15,false),(16,false),(17,false)],[]⟩)]),
 (142,[(10,⟨[0,1,2,3,4,5,6,7,8,9,10,11,12,13,14,15,16],[],[(17,false),(18,false),(19,false)],[]⟩)]),
 (143,[(10,⟨[0,1,2,3,4,5,6,7,8,9,10,11,12,13,14,15,16],[],[(17,false),(18,false),(19,false)],[]⟩)]),
 (145,[(3,⟨[0,1,2,3,4,5,6,7,8,9,10,11,12],[],[(13,false),(14,false),(15,false)],[]⟩)]),
 (146,[(5,⟨[0,1,2,3,4,5,6,7,8,9,10,11,12,13,14,15,16,17],[],[],[]⟩),(11,⟨[0,1,2,3,4,5,6,7,8,9,10,11,12,13,14],[],[(15,false),(16,false),(17,false)],[]⟩),(16,⟨[0,1,2,3,4,5,6,7,8,9,10,11,12],[],[],[]⟩),(17,⟨[0,1,2,3,4,5,6,7,8,9,10,11,12,13,14],[],[(15,false),(16,false),(17,false)],[]⟩),(22,⟨[0,1,2,3,4,5,6,7,8,9,10,11,12],[],[],[]⟩),(23,⟨[0,1,2,3,4,5,6,7,8,9,10,11,12,13,14],[],[(15,false),(16,false),(17,false)],[]⟩)]),
 (147,[(1,⟨[0,1,2,3,4,5,6,7,8,9,10,11,12],[],[(13,false),(14,false),(15,false)],[]⟩),(3,⟨[0,1,2,3,4,5,6,7,8,9,10,11,12,13,14,15,16],[],[],[]⟩),(5,⟨[0,1,2,3,4,5,6,7,8,9,10,11,12,13,14,15],[],[],[]⟩),(8,⟨[0,1,2,3,4,5,6,7,8,9,10,11,12],[],[(13,false),(14,false),(15,false)],[]⟩)]),
 (148,[(1,⟨[0,1,2,3,4,5,6,7,8,9,10,11,12],[],[(13,false),(14,false),(15,false)],[]⟩),(3,⟨[0,1,2,3,4,5,6,7,8,9,10,11,12,13,14,15],[],[],[]⟩),(5,⟨[0,1,2,3,4,5,6,7,8,9,10,11,12,13,14,15,16],[],[],[]⟩),(8,⟨[0,1,2,3,4,5,6,7,8,9,10,11,12],[],[(13,false),(14,false),(15,false)],[]⟩),(10,⟨[0,1,2,3,4,5,6,7,8,9,10,11,12],[],[(13,false),(14,false),(15,false)],[]⟩),(13,⟨[0,1,2,3,4,5,6,7,8,9,10,11,12,13,14,15],[],[],[]⟩),(15,⟨[0,1,2,3,4,5,6,7,8,9,10,11,12,13,14,15,16],[],[],[]⟩),(18,⟨[0,1,2,3,4,5,6,7,8,9,10,11,12],[],[(13,false),(14,false),(15,false)],[]⟩),(21,⟨[0,1,2,3,4,5,6,7,8,9,10,11,12],[],[(13,false),(14,false),(15,false)],[]⟩)]),
 (150,[(4,⟨[0,1,2,3,4,5,6,7,8,9,10,11,12,13,14,15,16],[],[],[]⟩),(6,⟨[0,1,2,3,4,5,6,7,8,9,10,11,12,13,14],[],[(15,false),(16,false),(17,false)],[]⟩)]),
 (151,[(10,⟨[0,1,2,3,4,5,6,7,8,9,10,11,12,13,14,15,16],[],[(17,false),(18,false),(19,false)],[]⟩)]),
 (152,[(10,⟨[0,1,2,3,4,5,6,7,8,9,10,11,12,13,14,15,16],[],[(17,false),(18,false),(19,false)],[]⟩)]),
 (154,[(3,⟨[0,1,2,3,4,5,6,7,8,9,10,11,12],[],[(13,false),(14,false),(15,false)],[]⟩)]),
 (155,[(5,⟨[0,1,2,3,4,5,6,7,8,9,10,11,12,13,14,15,16,17],[],[],[]⟩),(11,⟨[0,1,2,3,4,5,6,7,8,9,10,11,12,13,14],[],[(15,false),(16,false),(17,false)],[]⟩),(16,⟨[0,1,2,3,4,5,6,7,8,9,10,11,12],[],[],[]⟩),(17,⟨[0,1,2,3,4,5,6,7,8,9,10,11,12,13,14],[],[(15,false),(16,false),(17,false)],[]⟩),(22,⟨[0,1,2,3,4,5,6,7,8,9,10,11,12],[],[],[]⟩),(23,⟨[0,1,2,3,4,5,6,7,8,9,10,11,12,13,14],[],[(15,false),(16,false),(17,false)],[]⟩)]),
 (156,[(1,⟨[0,1,2,3,4,5,6,7,8,9,10,11,12],[],[(13,false),(14,false),(15,false)],[]⟩),(3,⟨[0,1,2,3,4,5,6,7,8,9,10,11,12,13,14,15,16],[],[],[]⟩),(5,⟨[0,1,2,3,4,5,6,7,8,9,10,11,12,13,14,15],[],[],[]⟩),(8,⟨[0,1,2,3,4,5,6,7,8,9,10,11,12],[],[(13,false),(14,false),(15,false)],[]⟩)]),
 (157,[(1,⟨[0,1,2,3,4,5,6,7,8,9,10,11,12],[],[(13,false),(14,false),(15,false)],[]⟩),(3,⟨[0,1,2,3,4,5,6,7,8,9,10,11,12,13,14,15],[],[],[]⟩),(5,⟨[0,1,2,3,4,5,6,7,8,9,10,11,12,13,14,15,16],[],[],[]⟩),(8,⟨[0,1,2,3,4,5,6,7,8,9,10,11,12],[],[(13,false),(14,false),(15,false)],[]⟩),(10,⟨[0,1,2,3,4,5,6,7,8,9,10,11,12],[],[(13,false),(14,false),(15,false)],[]⟩),(13,⟨[0,1,2,3,4,5,6,7,8,9,10,11,12,13,14,15],[],[],[]⟩),(15,⟨[0,1,2,3,4,5,6,7,8,9,10,11,12,13,14,15,16],[],[],[]⟩),(18,⟨[0,1,2,3,4,5,6,7,8,9,10,11,12],[],[(13,false),(14,false),(15,false)],[]⟩),(21,⟨[0,1,2,3,4,5,6,7,8,9,10,11,12],[],[(13,false),(14,false),(15,false)],[]⟩)]),
 (158,[(3,⟨[0,1,2,3,4,5,6,7,8,9,10,11,12,13,14,15,16,17,18,19,20,21],[],[],[]⟩),(5,⟨[0,1,2,3,4,5,6,7,8,9,10,11,12,13,14,15],[],[],[]⟩),(6,⟨[0,1,2,3,4,5,6,7,8,9,10,11,12,13,14,15,16,17,18,19,20],[],[(21,false),(22,false),(23,false)],[]⟩)]),
 (160,[(1,⟨[0,1,2,3,4,5,6,7,8],[],[(9,false)],[]⟩),(2,⟨[0,1,2,3,4,5,6,7,8],[],[(9,false)],[]⟩),(3,⟨[0,1,2,3,4,5,6,7,8],[],[(9,false)],[]⟩)]),
 (164,[(3,⟨[0,1,2,3,4,5,6,7,8,9,10,11,12,13,14,15,16,17,18,19],[],[],[]⟩),(5,⟨[0,1,2,3,4,5,6,7,8,9,10,11,12,13],[],[],[]⟩),(6,⟨[0,1,2,3,4,5,6,7,8,9,10,11,12,13,14,15,16,17,18,19,20],[],[(21,false),(22,false),(23,false)],[]⟩)]),
 (167,[(3,⟨[0,1,2,3,4,5,6,7,8,9,10,11,12,13,14,15,16,17,18,19,20,21],[],[],[]⟩),(5,⟨[0,1,2,3,4,5,6,7,8,9,10,11,12,13,14,15],[],[],[]⟩),(6,⟨[0,1,2,3,4,5,6,7,8,9,10,11,12,13,14,15,16,17,18,19,20],[],[(21,false),(22,false),(23,false)],[]⟩)]),
 (170,[(3,⟨[0,1,2,3,4,5,6,7,8,9,10,11,12,13,14,15,16,17,18,19,20,21],[],[],[]⟩),(5,⟨[0,1,2,3,4,5,6,7,8,9,10,11,12,13,14,15],[],[],[]⟩),(6,⟨[0,1,2,3,4,5,6,7,8,9,10,11,12,13,14,15,16,17,18,19,20],[],[(21,false),(22,false),(23,false)],[]⟩)]),
 (173,[(1,⟨[0,1,2,3,4,5,6,7,8,9,10],[],[],[]⟩)]),
 (175,[(1,⟨[0,1,2,3,4,5,6,7,8],[],[],[]⟩)]),
 (176,[(1,⟨[0,1,2,3,4,5,6,7,8,9,10],[],[],[]⟩)]),
 (177,[(1,⟨[0,1,2,3,4,5,6,7,8,9,10],[],[],[]⟩)])
]
def plF (f r:Nat):Option Plan:=match look plL f with|some l=>look l r|none=>none
def fnB (f : Nat)(fn : Func) : Bool := (!(fn.name == "runtime.NumGoroutine")) && (match fn.body with | some b => plansOK (plF f) b | none => true)
def ftB:List (Nat × Func)→Bool|[]=>true|(f,fn)::r=>fnB f fn&&ftB r
theorem ftB_append {l m:List (Nat × Func)}(h:ftB l=true)(hm:ftB m=true):ftB (l++m)=true:=by
 induction l with
 |nil=>exact hm
 |cons x r ih=>simp only [List.cons_append,ftB,Bool.and_eq_true] at h ⊢;exact⟨h.1,ih h.2⟩
theorem ftL0_B:ftB ftL0=true:=by decide +kernel
theorem ftL1_B:ftB ftL1=true:=by decide +kernel
theorem ftL2_B:ftB ftL2=true:=by decide +kernel
theorem ftL3_B:ftB ftL3=true:=by decide +kernel
theorem ftL4_B:ftB ftL4=true:=by decide +kernel
theorem ftL5_B:ftB ftL5=true:=by decide +kernel
theorem ftL6_B:ftB ftL6=true:=by decide +kernel
theorem ftL7_B:ftB ftL7=true:=by decide +kernel
theorem ftL8_B:ftB ftL8=true:=by decide +kernel
theorem ftB_ok:ftB ftL=true:=ftB_append ftL0_B (ftB_append ftL1_B (ftB_append ftL2_B (ftB_append ftL3_B (ftB_append ftL4_B (ftB_append ftL5_B (ftB_append ftL6_B (ftB_append ftL7_B ftL8_B)))))))
end Go.Aw
end

noncomputable section
namespace Go.Aw
def cfg0:Cfg:={ A:=fastA,T:=tyT,FT:=look ftL,PL:=plF,PR:=fun _=>false,X:=fun _=>none,M:=1000 }
theorem ftB_mem:∀ {l:List (Nat × Func)} {f:Nat} {fn:Func},ftB l=true→(f,fn)∈l→fnB f fn=true
 |[],_,_,_,h=>by cases h
 |(g,gn)::r,f,fn,hb,h=>by
  simp only [ftB,Bool.and_eq_true] at hb
  cases h with
  |head=>exact hb.1
  |tail _ hm=>exact ftB_mem hb.2 hm
theorem ft_funcs (f : Nat)(fn : Func)(h : look ftL f = some fn) : Go.Proofs.Tryz.prog.funcs[f]? = some fn ∧ (fn.name == "runtime.NumGoroutine") = false ∧ ∀ b, fn.body = some b → plansOK (plF f) b = true := by
 have hm:=look_mem h
 have hb:=ftB_mem ftB_ok hm
 unfold fnB at hb
 simp only [Bool.and_eq_true,Bool.not_eq_true'] at hb
 have h1:Go.Proofs.Tryz.prog.funcs[(f,fn).1]? = some (f,fn).2:=ftL_ok (f,fn) hm
 refine⟨h1,hb.1,?_⟩
 have h2:=hb.2
 generalize plF f=Φ at h2 ⊢
 intro b he
 simp only [he] at h2
 exact h2
theorem cfg_ok (X:Nat→Option (List Value→Heap→Nat→KE→Prop))(hX:∀ f x,X f=some x→XOK Go.Proofs.Tryz.prog f x)(PR:Nat→Bool)(M:Nat):CfgOK Go.Proofs.Tryz.prog { A:=fastA,T:=tyT,FT:=look ftL,PL:=plF,PR:=PR,X:=X,M:=M } where
 ar:=fastA_eq
 tab:=tyT_tab
 mixed:=by decide +kernel
 funcs:=ft_funcs
 xs:=hX
theorem cfg0_ok:CfgOK Go.Proofs.Tryz.prog cfg0:=cfg_ok _ (fun _ _ h=>by cases h) _ _
def iv (n:Int):Value:=.int .i64 n
def pt (x y:Int):Value:=.agg #[iv x,iv y]
def sg (a b c d:Int):Value:=.agg #[iv a,iv b,iv c,iv d]
end Go.Aw
end

noncomputable section
namespace Go.Aw
def cfgS:Cfg:={ A:=std,T:=tyT,FT:=look ftL,PL:=plF,PR:=fun _=>false,X:=fun _=>none,M:=0 }
theorem cfgS_ok:CfgOK Go.Proofs.Tryz.prog cfgS where
 ar:=rfl
 tab:=tyT_tab
 mixed:=by decide +kernel
 funcs:=ft_funcs
 xs:=fun _ _ h=>by cases h
def body (xl:List (Nat × XF)):VC:=vbody cfgS none (CX (look xl)) noY
def XLOK (xl:List (Nat × XF)):Prop:=∀ p∈xl,XOK Go.Proofs.Tryz.prog p.1 p.2
theorem XLOK.nil:XLOK []:=fun _ h=>by cases h
theorem XLOK.cons {f:Nat}{x:XF}{l:List (Nat × XF)}(h:XOK Go.Proofs.Tryz.prog f x)(hl:XLOK l):XLOK ((f,x)::l):=List.forall_mem_cons.2 ⟨h,hl⟩
theorem XLOK.look {xl:List (Nat × XF)}(h:XLOK xl)(f:Nat)(x:XF)(hx:look xl f=some x):XOK Go.Proofs.Tryz.prog f x:=h (f,x) (look_mem hx)
theorem body_calls {xl:List (Nat × XF)}(h:XLOK xl):CallsOK Go.Proofs.Tryz.prog (body xl):=vbody_ok cfgS_ok (CX_ok h.look) noY_ok (CX_det h.look) noY_det none
def ptv (p:Int × Int):Value:=.agg #[iv p.1,iv p.2]
def decI:Value→Option Int
 |.int .i64 n=>some n
 |_=>none
def decP:Value→Option (Int × Int)
 |.agg ⟨[.int .i64 x,.int .i64 y]⟩=>some (x,y)
 |_=>none
theorem decI_eq {v:Value}{n:Int}(h:decI v=some n):v=iv n:=by
 unfold decI at h
 split at h
 ·injection h with h;subst h;rfl
 ·cases h
theorem decP_eq {v:Value}{p:Int × Int}(h:decP v=some p):v=ptv p:=by
 unfold decP at h
 split at h
 ·injection h with h;subst h;rfl
 ·cases h
def s1P (F:Int × Int→Bool × Value):List Value→Option (Bool × Value)
 |[a]=>(match decP a with|some p=>some (F p)|none=>none)
 |_=>none
theorem s1P_inv {F:Int × Int→Bool × Value}{args:List Value}{r:Bool × Value}(h:s1P F args=some r):∃ p,args=[ptv p]∧F p=r:=by
 unfold s1P at h
 split at h
 ·split at h
  ·rename_i p e
   injection h with h
   exact⟨p,by rw [decP_eq e],h⟩
  ·cases h
 ·cases h
def s3P (F:Int × Int→Int × Int→Int × Int→Bool × Value):List Value→Option (Bool × Value)
 |[a,b,c]=>(match decP a with|some p=>(match decP b with|some q=>(match decP c with|some r=>some (F p q r)|none=>none)|none=>none)|none=>none)
 |_=>none
theorem s3P_inv {F:Int × Int→Int × Int→Int × Int→Bool × Value}{args:List Value}{r:Bool × Value}(h:s3P F args=some r):∃ p q s,args=[ptv p,ptv q,ptv s]∧F p q s=r:=by
 unfold s3P at h
 split at h
 ·split at h
  ·rename_i p e
   split at h
   ·rename_i q e2
    split at h
    ·rename_i s e3
     injection h with h
     exact⟨p,q,s,by rw [decP_eq e,decP_eq e2,decP_eq e3],h⟩
    ·cases h
   ·cases h
  ·cases h
 ·cases h
def s1I (F:Int→Bool × Value):List Value→Option (Bool × Value)
 |[a]=>(match decI a with|some p=>some (F p)|none=>none)
 |_=>none
theorem s1I_inv {F:Int→Bool × Value}{args:List Value}{r:Bool × Value}(h:s1I F args=some r):∃ p,args=[iv p]∧F p=r:=by
 unfold s1I at h
 split at h
 ·split at h
  ·rename_i p e
   injection h with h
   exact⟨p,by rw [decI_eq e],h⟩
  ·cases h
 ·cases h
def s2I (F:Int→Int→Bool × Value):List Value→Option (Bool × Value)
 |[a,b]=>(match decI a with|some p=>(match decI b with|some q=>some (F p q)|none=>none)|none=>none)
 |_=>none
theorem s2I_inv {F:Int→Int→Bool × Value}{args:List Value}{r:Bool × Value}(h:s2I F args=some r):∃ p q,args=[iv p,iv q]∧F p q=r:=by
 unfold s2I at h
 split at h
 ·split at h
  ·rename_i p e
   split at h
   ·rename_i q e2
    injection h with h
    exact⟨p,q,by rw [decI_eq e,decI_eq e2],h⟩
   ·cases h
  ·cases h
 ·cases h
def Does1 (xl:List (Nat × XF))(f:Nat)(args:List Value)(v:Value):Prop:=body xl f args [] 0 (fun u _ _=>u=v)
theorem x1P {xl:List (Nat × XF)}(hx:XLOK xl){f:Nat}{F:Int × Int→Bool × Value}(hg:∀ p,gT (F p).2=true)(h:∀ p,(F p).1=true→Does1 xl f [ptv p] (F p).2):XOK Go.Proofs.Tryz.prog f (gX (s1P F)) :=
 gX_ok (body_calls hx) fun args v hs=>by
  obtain⟨p,rfl,e⟩:=s1P_inv hs
  have h1:(F p).1=true:=by rw [e]
  have h2:(F p).2=v:=by rw [e]
  subst h2
  exact⟨rfl,hg p,h p h1⟩
theorem x3P {xl:List (Nat × XF)}(hx:XLOK xl){f:Nat}{F:Int × Int→Int × Int→Int × Int→Bool × Value}(hg:∀ p q r,gT (F p q r).2=true)(h:∀ p q r,(F p q r).1=true→Does1 xl f [ptv p,ptv q,ptv r] (F p q r).2):XOK Go.Proofs.Tryz.prog f (gX (s3P F)) :=
 gX_ok (body_calls hx) fun args v hs=>by
  obtain⟨p,q,r,rfl,e⟩:=s3P_inv hs
  have h1:(F p q r).1=true:=by rw [e]
  have h2:(F p q r).2=v:=by rw [e]
  subst h2
  exact⟨rfl,hg p q r,h p q r h1⟩
theorem x1I {xl:List (Nat × XF)}(hx:XLOK xl){f:Nat}{F:Int→Bool × Value}(hg:∀ p,gT (F p).2=true)(h:∀ p,(F p).1=true→Does1 xl f [iv p] (F p).2):XOK Go.Proofs.Tryz.prog f (gX (s1I F)) :=
 gX_ok (body_calls hx) fun args v hs=>by
  obtain⟨p,rfl,e⟩:=s1I_inv hs
  have h1:(F p).1=true:=by rw [e]
  have h2:(F p).2=v:=by rw [e]
  subst h2
  exact⟨rfl,hg p,h p h1⟩
theorem x2I {xl:List (Nat × XF)}(hx:XLOK xl){f:Nat}{F:Int→Int→Bool × Value}(hg:∀ p q,gT (F p q).2=true)(h:∀ p q,(F p q).1=true→Does1 xl f [iv p,iv q] (F p q).2):XOK Go.Proofs.Tryz.prog f (gX (s2I F)) :=
 gX_ok (body_calls hx) fun args v hs=>by
  obtain⟨p,q,rfl,e⟩:=s2I_inv hs
  have h1:(F p q).1=true:=by rw [e]
  have h2:(F p q).2=v:=by rw [e]
  subst h2
  exact⟨rfl,hg p q,h p q h1⟩
def elP:El (Int × Int):=⟨fun p=>[iv p.1,iv p.2],2,fun _=>rfl,fun _=>rfl,by decide⟩
def rightS (p:Int × Int):Bool:=decide (0≤p.1)&&decide (p.1≤10000)&&decide (0≤p.2)&&decide (p.2≤10000)
def wide (p:Int × Int):Bool:=decide (-1000000≤p.1)&&decide (p.1≤1000000)&&decide (-1000000≤p.2)&&decide (p.2≤1000000)
def crossI (a b c:Int × Int):Int:=(b.1 - a.1)*(c.2 - a.2) - (b.2 - a.2)*(c.1 - a.1)
def sgn (n:Int):Int:=if n<0 then -1 else if 0<n then 1 else 0
def cmpI (a b:Int):Int:=if a<b then -1 else if b<a then 1 else 0
def turnS (a b c:Int × Int):Int:=sgn (crossI a b c)
set_option maxRecDepth 100000
def X58:Nat × XF:=(45,gX (s1P fun p=>(true,.bool (rightS p))))
theorem x58:XOK Go.Proofs.Tryz.prog X58.1 X58.2:=x1P .nil (fun _=>rfl) fun p _=>by
 obtain⟨x,y⟩:=p
 unfold Does1
 repeat' (conv=>whnf
          refine bm (fun h=>?_) (fun h=>?_))
 all_goals (conv=>whnf)
 all_goals (simp [cfgS,std] at *;simp [rightS, *] <;> omega)
end Go.Aw
end

noncomputable section
namespace Go.Aw
theorem mulB {a b A B:Int}(h1 : -A≤a)(h2:a≤A)(h3 : -B≤b)(h4:b≤B) : -(A*B)≤a*b∧a*b≤A*B:=by
 have e1:=Int.mul_nonneg (show 0≤A - a by omega) (show 0≤B+b by omega)
 have e2:=Int.mul_nonneg (show 0≤A+a by omega) (show 0≤B - b by omega)
 have e3:=Int.mul_nonneg (show 0≤A - a by omega) (show 0≤B - b by omega)
 have e4:=Int.mul_nonneg (show 0≤A+a by omega) (show 0≤B+b by omega)
 simp only [Int.sub_mul,Int.mul_sub,Int.add_mul,Int.mul_add] at e1 e2 e3 e4
 omega
set_option maxRecDepth 100000
def X133:Nat × XF:=(116,gX (s1I fun p=>(true,.bool false)))
theorem x133:XOK Go.Proofs.Tryz.prog X133.1 X133.2:=x1I .nil (fun _=>rfl) fun p _=>by
 unfold Does1
 repeat' (conv=>whnf
          refine bm (fun h=>?_) (fun h=>?_))
 all_goals (conv=>whnf)
 all_goals (simp [cfgS,std] at *)
def X101:Nat × XF:=(91,gX (s2I fun p q=>(true,iv (cmpI p q))))
theorem x101:XOK Go.Proofs.Tryz.prog X101.1 X101.2:=x2I (xl:=[X133]) (.cons x133 .nil) (fun _ _=>rfl) fun p q _=>by
 unfold Does1
 repeat' (conv=>whnf
          refine bm (fun h=>?_) (fun h=>?_))
 all_goals (conv=>whnf)
 all_goals (simp [cfgS,std] at *;simp [cmpI,iv] <;> omega)
def X102:Nat × XF:=(92,gX (s3P fun a b c=>(wide a&&wide b&&wide c,iv (crossI a b c))))
theorem x102:XOK Go.Proofs.Tryz.prog X102.1 X102.2:=x3P .nil (fun _ _ _=>rfl) fun a b c hp=>by
 obtain⟨ax,ay⟩:=a
 obtain⟨bx,b_y⟩:=b
 obtain⟨cx,cy⟩:=c
 simp only [wide,Bool.and_eq_true,decide_eq_true_eq] at hp
 have m1:=mulB (a:=bx - ax) (b:=cy - ay) (A:=2000000) (B:=2000000) (by omega) (by omega) (by omega) (by omega)
 have m2:=mulB (a:=b_y - ay) (b:=cx - ax) (A:=2000000) (B:=2000000) (by omega) (by omega) (by omega) (by omega)
 unfold Does1
 repeat' (conv=>whnf
          refine bm (fun h=>?_) (fun h=>?_))
 all_goals (conv=>whnf)
 all_goals (simp [cfgS,std,fitsK] at *)
 all_goals first|omega|simp [crossI,iv]
def X55:Nat × XF:=(37,gX (s3P fun a b c=>(wide a&&wide b&&wide c,iv (turnS a b c))))
theorem x55:XOK Go.Proofs.Tryz.prog X55.1 X55.2:=x3P (xl:=[X101,X102]) (.cons x101 (.cons x102 .nil)) (fun _ _ _=>rfl) fun a b c hp=>by
 obtain⟨ax,ay⟩:=a
 obtain⟨bx,b_y⟩:=b
 obtain⟨cx,cy⟩:=c
 unfold Does1
 repeat' (conv=>whnf
          refine bm (fun h=>?_) (fun h=>?_))
 all_goals (conv=>whnf)
 all_goals (simp at *)
 ·simp [turnS,cmpI,sgn,iv]
 ·simp_all
def X17:Nat × XF:=(13,gX (s1P fun p=>(true,iv (if rightS p then 0 else 1))))
theorem x17:XOK Go.Proofs.Tryz.prog X17.1 X17.2:=x1P (xl:=[X58]) (.cons x58 .nil) (fun _=>rfl) fun p _=>by
 obtain⟨x,y⟩:=p
 unfold Does1
 repeat' (conv=>whnf
          refine bm (fun h=>?_) (fun h=>?_))
 all_goals (conv=>whnf)
 all_goals (simp [cfgS,std] at *;simp [iv, *])
theorem rightS_wide {p:Int × Int}(h:rightS p=true):wide p=true:=by
 simp only [rightS,wide,Bool.and_eq_true,decide_eq_true_eq] at *
 omega
def tS (a b c:Int × Int):Int:=if rightS a&&rightS b&&rightS c then turnS a b c else 0
def X100:Nat × XF:=(94,gX (s1P fun p=>(true,.bool (!rightS p))))
theorem x100:XOK Go.Proofs.Tryz.prog X100.1 X100.2:=x1P (xl:=[X58]) (.cons x58 .nil) (fun _=>rfl) fun p _=>by
 obtain⟨x,y⟩:=p
 unfold Does1
 repeat' (conv=>whnf
          refine bm (fun h=>?_) (fun h=>?_))
 all_goals (conv=>whnf)
 all_goals (simp [cfgS,std] at *)
end Go.Aw
end
