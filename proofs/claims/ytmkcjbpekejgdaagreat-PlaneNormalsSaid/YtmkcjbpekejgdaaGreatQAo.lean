/-
  Parts of a proof. No condition.
-/
import Derived.Test.YtmkcjbpekejgdaaGreatQAn
set_option linter.unusedSimpArgs false
set_option linter.unusedVariables false
noncomputable section
namespace Go.Aw
def FOK (l:List (Nat × Func)):Prop:=∀ p∈l,Go.Proofs.Tryz.prog.funcs[p.1]? = some p.2
theorem FOK.nil:FOK []:=fun _ h=>by cases h
theorem FOK.cons {n:Nat}{f:Func}{l:List (Nat × Func)}(h:Go.Proofs.Tryz.prog.funcs[n]? = some f)(hl:FOK l):FOK ((n,f)::l):=List.forall_mem_cons.2 ⟨h,hl⟩
theorem FOK.append {l m:List (Nat × Func)}(h:FOK l)(hm:FOK m):FOK (l++m):=fun p hp=>(List.mem_append.1 hp).elim (h p) (hm p)
noncomputable def ftL0:List (Nat × Func):=[(133,Go.Proofs.Tryz.f133),(101,Go.Proofs.Tryz.f101),(55,Go.Proofs.Tryz.f55),(102,Go.Proofs.Tryz.f102),(58,Go.Proofs.Tryz.f58),(114,Go.Proofs.Tryz.f114),(106,Go.Proofs.Tryz.f106),(81,Go.Proofs.Tryz.f81),(59,Go.Proofs.Tryz.f59),(68,Go.Proofs.Tryz.f68),(100,Go.Proofs.Tryz.f100),(74,Go.Proofs.Tryz.f74),(65,Go.Proofs.Tryz.f65),(60,Go.Proofs.Tryz.f60),(64,Go.Proofs.Tryz.f64),(99,Go.Proofs.Tryz.f99),(54,Go.Proofs.Tryz.f54),(152,Go.Proofs.Tryz.f152),(135,Go.Proofs.Tryz.f135),(132,Go.Proofs.Tryz.f132)]
theorem ftL0_ok:FOK ftL0:=.cons Go.Proofs.Tryz.func133 (.cons Go.Proofs.Tryz.func101 (.cons Go.Proofs.Tryz.func55 (.cons Go.Proofs.Tryz.func102 (.cons Go.Proofs.Tryz.func58 (.cons Go.Proofs.Tryz.func114 (.cons Go.Proofs.Tryz.func106 (.cons Go.Proofs.Tryz.func81 (.cons Go.Proofs.Tryz.func59 (.cons Go.Proofs.Tryz.func68 (.cons Go.Proofs.Tryz.func100 (.cons Go.Proofs.Tryz.func74 (.cons Go.Proofs.Tryz.func65 (.cons Go.Proofs.Tryz.func60 (.cons Go.Proofs.Tryz.func64 (.cons Go.Proofs.Tryz.func99 (.cons Go.Proofs.Tryz.func54 (.cons Go.Proofs.Tryz.func152 (.cons Go.Proofs.Tryz.func135 (.cons Go.Proofs.Tryz.func132 (.nil))))))))))))))))))))
noncomputable def ftL1:List (Nat × Func):=[(111,Go.Proofs.Tryz.f111),(75,Go.Proofs.Tryz.f75),(191,Go.Proofs.Tryz.f191),(32,Go.Proofs.Tryz.f32),(22,Go.Proofs.Tryz.f22),(127,Go.Proofs.Tryz.f127),(119,Go.Proofs.Tryz.f119),(83,Go.Proofs.Tryz.f83),(163,Go.Proofs.Tryz.f163),(143,Go.Proofs.Tryz.f143),(140,Go.Proofs.Tryz.f140),(136,Go.Proofs.Tryz.f136),(134,Go.Proofs.Tryz.f134),(117,Go.Proofs.Tryz.f117),(113,Go.Proofs.Tryz.f113),(110,Go.Proofs.Tryz.f110),(107,Go.Proofs.Tryz.f107),(105,Go.Proofs.Tryz.f105),(88,Go.Proofs.Tryz.f88),(86,Go.Proofs.Tryz.f86)]
theorem ftL1_ok:FOK ftL1:=.cons Go.Proofs.Tryz.func111 (.cons Go.Proofs.Tryz.func75 (.cons Go.Proofs.Tryz.func191 (.cons Go.Proofs.Tryz.func32 (.cons Go.Proofs.Tryz.func22 (.cons Go.Proofs.Tryz.func127 (.cons Go.Proofs.Tryz.func119 (.cons Go.Proofs.Tryz.func83 (.cons Go.Proofs.Tryz.func163 (.cons Go.Proofs.Tryz.func143 (.cons Go.Proofs.Tryz.func140 (.cons Go.Proofs.Tryz.func136 (.cons Go.Proofs.Tryz.func134 (.cons Go.Proofs.Tryz.func117 (.cons Go.Proofs.Tryz.func113 (.cons Go.Proofs.Tryz.func110 (.cons Go.Proofs.Tryz.func107 (.cons Go.Proofs.Tryz.func105 (.cons Go.Proofs.Tryz.func88 (.cons Go.Proofs.Tryz.func86 (.nil))))))))))))))))))))
noncomputable def ftL2:List (Nat × Func):=[(85,Go.Proofs.Tryz.f85),(76,Go.Proofs.Tryz.f76),(73,Go.Proofs.Tryz.f73),(69,Go.Proofs.Tryz.f69),(40,Go.Proofs.Tryz.f40),(38,Go.Proofs.Tryz.f38),(141,Go.Proofs.Tryz.f141),(126,Go.Proofs.Tryz.f126),(125,Go.Proofs.Tryz.f125),(124,Go.Proofs.Tryz.f124),(123,Go.Proofs.Tryz.f123),(121,Go.Proofs.Tryz.f121),(109,Go.Proofs.Tryz.f109),(108,Go.Proofs.Tryz.f108),(97,Go.Proofs.Tryz.f97),(96,Go.Proofs.Tryz.f96),(63,Go.Proofs.Tryz.f63),(62,Go.Proofs.Tryz.f62),(61,Go.Proofs.Tryz.f61),(51,Go.Proofs.Tryz.f51)]
theorem ftL2_ok:FOK ftL2:=.cons Go.Proofs.Tryz.func85 (.cons Go.Proofs.Tryz.func76 (.cons Go.Proofs.Tryz.func73 (.cons Go.Proofs.Tryz.func69 (.cons Go.Proofs.Tryz.func40 (.cons Go.Proofs.Tryz.func38 (.cons Go.Proofs.Tryz.func141 (.cons Go.Proofs.Tryz.func126 (.cons Go.Proofs.Tryz.func125 (.cons Go.Proofs.Tryz.func124 (.cons Go.Proofs.Tryz.func123 (.cons Go.Proofs.Tryz.func121 (.cons Go.Proofs.Tryz.func109 (.cons Go.Proofs.Tryz.func108 (.cons Go.Proofs.Tryz.func97 (.cons Go.Proofs.Tryz.func96 (.cons Go.Proofs.Tryz.func63 (.cons Go.Proofs.Tryz.func62 (.cons Go.Proofs.Tryz.func61 (.cons Go.Proofs.Tryz.func51 (.nil))))))))))))))))))))
noncomputable def ftL3:List (Nat × Func):=[(49,Go.Proofs.Tryz.f49),(34,Go.Proofs.Tryz.f34),(30,Go.Proofs.Tryz.f30),(26,Go.Proofs.Tryz.f26),(23,Go.Proofs.Tryz.f23),(19,Go.Proofs.Tryz.f19),(185,Go.Proofs.Tryz.f185),(179,Go.Proofs.Tryz.f179),(162,Go.Proofs.Tryz.f162),(161,Go.Proofs.Tryz.f161),(153,Go.Proofs.Tryz.f153),(15,Go.Proofs.Tryz.f15),(139,Go.Proofs.Tryz.f139),(138,Go.Proofs.Tryz.f138),(137,Go.Proofs.Tryz.f137),(118,Go.Proofs.Tryz.f118),(116,Go.Proofs.Tryz.f116),(115,Go.Proofs.Tryz.f115),(112,Go.Proofs.Tryz.f112),(104,Go.Proofs.Tryz.f104)]
theorem ftL3_ok:FOK ftL3:=.cons Go.Proofs.Tryz.func49 (.cons Go.Proofs.Tryz.func34 (.cons Go.Proofs.Tryz.func30 (.cons Go.Proofs.Tryz.func26 (.cons Go.Proofs.Tryz.func23 (.cons Go.Proofs.Tryz.func19 (.cons Go.Proofs.Tryz.func185 (.cons Go.Proofs.Tryz.func179 (.cons Go.Proofs.Tryz.func162 (.cons Go.Proofs.Tryz.func161 (.cons Go.Proofs.Tryz.func153 (.cons Go.Proofs.Tryz.func15 (.cons Go.Proofs.Tryz.func139 (.cons Go.Proofs.Tryz.func138 (.cons Go.Proofs.Tryz.func137 (.cons Go.Proofs.Tryz.func118 (.cons Go.Proofs.Tryz.func116 (.cons Go.Proofs.Tryz.func115 (.cons Go.Proofs.Tryz.func112 (.cons Go.Proofs.Tryz.func104 (.nil))))))))))))))))))))
noncomputable def ftL4:List (Nat × Func):=[(2,Go.Proofs.Tryz.f2),(3,Go.Proofs.Tryz.f3),(4,Go.Proofs.Tryz.f4),(5,Go.Proofs.Tryz.f5),(6,Go.Proofs.Tryz.f6),(7,Go.Proofs.Tryz.f7),(8,Go.Proofs.Tryz.f8),(9,Go.Proofs.Tryz.f9),(10,Go.Proofs.Tryz.f10),(11,Go.Proofs.Tryz.f11),(12,Go.Proofs.Tryz.f12),(13,Go.Proofs.Tryz.f13),(14,Go.Proofs.Tryz.f14),(16,Go.Proofs.Tryz.f16),(17,Go.Proofs.Tryz.f17),(18,Go.Proofs.Tryz.f18),(20,Go.Proofs.Tryz.f20),(21,Go.Proofs.Tryz.f21),(24,Go.Proofs.Tryz.f24),(25,Go.Proofs.Tryz.f25)]
theorem ftL4_ok:FOK ftL4:=.cons Go.Proofs.Tryz.func2 (.cons Go.Proofs.Tryz.func3 (.cons Go.Proofs.Tryz.func4 (.cons Go.Proofs.Tryz.func5 (.cons Go.Proofs.Tryz.func6 (.cons Go.Proofs.Tryz.func7 (.cons Go.Proofs.Tryz.func8 (.cons Go.Proofs.Tryz.func9 (.cons Go.Proofs.Tryz.func10 (.cons Go.Proofs.Tryz.func11 (.cons Go.Proofs.Tryz.func12 (.cons Go.Proofs.Tryz.func13 (.cons Go.Proofs.Tryz.func14 (.cons Go.Proofs.Tryz.func16 (.cons Go.Proofs.Tryz.func17 (.cons Go.Proofs.Tryz.func18 (.cons Go.Proofs.Tryz.func20 (.cons Go.Proofs.Tryz.func21 (.cons Go.Proofs.Tryz.func24 (.cons Go.Proofs.Tryz.func25 (.nil))))))))))))))))))))
noncomputable def ftL5:List (Nat × Func):=[(27,Go.Proofs.Tryz.f27),(28,Go.Proofs.Tryz.f28),(29,Go.Proofs.Tryz.f29),(31,Go.Proofs.Tryz.f31),(33,Go.Proofs.Tryz.f33),(35,Go.Proofs.Tryz.f35),(36,Go.Proofs.Tryz.f36),(37,Go.Proofs.Tryz.f37),(39,Go.Proofs.Tryz.f39),(41,Go.Proofs.Tryz.f41),(42,Go.Proofs.Tryz.f42),(43,Go.Proofs.Tryz.f43),(44,Go.Proofs.Tryz.f44),(45,Go.Proofs.Tryz.f45),(46,Go.Proofs.Tryz.f46),(47,Go.Proofs.Tryz.f47),(48,Go.Proofs.Tryz.f48),(50,Go.Proofs.Tryz.f50),(52,Go.Proofs.Tryz.f52),(53,Go.Proofs.Tryz.f53)]
theorem ftL5_ok:FOK ftL5:=.cons Go.Proofs.Tryz.func27 (.cons Go.Proofs.Tryz.func28 (.cons Go.Proofs.Tryz.func29 (.cons Go.Proofs.Tryz.func31 (.cons Go.Proofs.Tryz.func33 (.cons Go.Proofs.Tryz.func35 (.cons Go.Proofs.Tryz.func36 (.cons Go.Proofs.Tryz.func37 (.cons Go.Proofs.Tryz.func39 (.cons Go.Proofs.Tryz.func41 (.cons Go.Proofs.Tryz.func42 (.cons Go.Proofs.Tryz.func43 (.cons Go.Proofs.Tryz.func44 (.cons Go.Proofs.Tryz.func45 (.cons Go.Proofs.Tryz.func46 (.cons Go.Proofs.Tryz.func47 (.cons Go.Proofs.Tryz.func48 (.cons Go.Proofs.Tryz.func50 (.cons Go.Proofs.Tryz.func52 (.cons Go.Proofs.Tryz.func53 (.nil))))))))))))))))))))
noncomputable def ftL6:List (Nat × Func):=[(56,Go.Proofs.Tryz.f56),(57,Go.Proofs.Tryz.f57),(66,Go.Proofs.Tryz.f66),(67,Go.Proofs.Tryz.f67),(70,Go.Proofs.Tryz.f70),(71,Go.Proofs.Tryz.f71),(72,Go.Proofs.Tryz.f72),(77,Go.Proofs.Tryz.f77),(78,Go.Proofs.Tryz.f78),(79,Go.Proofs.Tryz.f79),(80,Go.Proofs.Tryz.f80),(82,Go.Proofs.Tryz.f82),(84,Go.Proofs.Tryz.f84),(87,Go.Proofs.Tryz.f87),(89,Go.Proofs.Tryz.f89),(90,Go.Proofs.Tryz.f90),(91,Go.Proofs.Tryz.f91),(92,Go.Proofs.Tryz.f92),(93,Go.Proofs.Tryz.f93),(94,Go.Proofs.Tryz.f94)]
theorem ftL6_ok:FOK ftL6:=.cons Go.Proofs.Tryz.func56 (.cons Go.Proofs.Tryz.func57 (.cons Go.Proofs.Tryz.func66 (.cons Go.Proofs.Tryz.func67 (.cons Go.Proofs.Tryz.func70 (.cons Go.Proofs.Tryz.func71 (.cons Go.Proofs.Tryz.func72 (.cons Go.Proofs.Tryz.func77 (.cons Go.Proofs.Tryz.func78 (.cons Go.Proofs.Tryz.func79 (.cons Go.Proofs.Tryz.func80 (.cons Go.Proofs.Tryz.func82 (.cons Go.Proofs.Tryz.func84 (.cons Go.Proofs.Tryz.func87 (.cons Go.Proofs.Tryz.func89 (.cons Go.Proofs.Tryz.func90 (.cons Go.Proofs.Tryz.func91 (.cons Go.Proofs.Tryz.func92 (.cons Go.Proofs.Tryz.func93 (.cons Go.Proofs.Tryz.func94 (.nil))))))))))))))))))))
noncomputable def ftL7:List (Nat × Func):=[(95,Go.Proofs.Tryz.f95),(98,Go.Proofs.Tryz.f98),(103,Go.Proofs.Tryz.f103),(120,Go.Proofs.Tryz.f120),(122,Go.Proofs.Tryz.f122),(128,Go.Proofs.Tryz.f128),(129,Go.Proofs.Tryz.f129),(130,Go.Proofs.Tryz.f130),(131,Go.Proofs.Tryz.f131),(142,Go.Proofs.Tryz.f142),(144,Go.Proofs.Tryz.f144),(145,Go.Proofs.Tryz.f145),(146,Go.Proofs.Tryz.f146),(147,Go.Proofs.Tryz.f147),(148,Go.Proofs.Tryz.f148),(149,Go.Proofs.Tryz.f149),(150,Go.Proofs.Tryz.f150),(151,Go.Proofs.Tryz.f151),(154,Go.Proofs.Tryz.f154),(155,Go.Proofs.Tryz.f155)]
theorem ftL7_ok:FOK ftL7:=.cons Go.Proofs.Tryz.func95 (.cons Go.Proofs.Tryz.func98 (.cons Go.Proofs.Tryz.func103 (.cons Go.Proofs.Tryz.func120 (.cons Go.Proofs.Tryz.func122 (.cons Go.Proofs.Tryz.func128 (.cons Go.Proofs.Tryz.func129 (.cons Go.Proofs.Tryz.func130 (.cons Go.Proofs.Tryz.func131 (.cons Go.Proofs.Tryz.func142 (.cons Go.Proofs.Tryz.func144 (.cons Go.Proofs.Tryz.func145 (.cons Go.Proofs.Tryz.func146 (.cons Go.Proofs.Tryz.func147 (.cons Go.Proofs.Tryz.func148 (.cons Go.Proofs.Tryz.func149 (.cons Go.Proofs.Tryz.func150 (.cons Go.Proofs.Tryz.func151 (.cons Go.Proofs.Tryz.func154 (.cons Go.Proofs.Tryz.func155 (.nil))))))))))))))))))))
noncomputable def ftL8:List (Nat × Func):=[(156,Go.Proofs.Tryz.f156),(157,Go.Proofs.Tryz.f157),(158,Go.Proofs.Tryz.f158),(159,Go.Proofs.Tryz.f159),(160,Go.Proofs.Tryz.f160),(164,Go.Proofs.Tryz.f164),(165,Go.Proofs.Tryz.f165),(166,Go.Proofs.Tryz.f166),(167,Go.Proofs.Tryz.f167),(168,Go.Proofs.Tryz.f168),(169,Go.Proofs.Tryz.f169),(170,Go.Proofs.Tryz.f170),(171,Go.Proofs.Tryz.f171),(172,Go.Proofs.Tryz.f172),(173,Go.Proofs.Tryz.f173),(174,Go.Proofs.Tryz.f174),(175,Go.Proofs.Tryz.f175),(176,Go.Proofs.Tryz.f176),(177,Go.Proofs.Tryz.f177),(178,Go.Proofs.Tryz.f178)]
theorem ftL8_ok:FOK ftL8:=.cons Go.Proofs.Tryz.func156 (.cons Go.Proofs.Tryz.func157 (.cons Go.Proofs.Tryz.func158 (.cons Go.Proofs.Tryz.func159 (.cons Go.Proofs.Tryz.func160 (.cons Go.Proofs.Tryz.func164 (.cons Go.Proofs.Tryz.func165 (.cons Go.Proofs.Tryz.func166 (.cons Go.Proofs.Tryz.func167 (.cons Go.Proofs.Tryz.func168 (.cons Go.Proofs.Tryz.func169 (.cons Go.Proofs.Tryz.func170 (.cons Go.Proofs.Tryz.func171 (.cons Go.Proofs.Tryz.func172 (.cons Go.Proofs.Tryz.func173 (.cons Go.Proofs.Tryz.func174 (.cons Go.Proofs.Tryz.func175 (.cons Go.Proofs.Tryz.func176 (.cons Go.Proofs.Tryz.func177 (.cons Go.Proofs.Tryz.func178 (.nil))))))))))))))))))))
noncomputable def ftL9:List (Nat × Func):=[(180,Go.Proofs.Tryz.f180),(181,Go.Proofs.Tryz.f181),(182,Go.Proofs.Tryz.f182),(183,Go.Proofs.Tryz.f183),(184,Go.Proofs.Tryz.f184),(186,Go.Proofs.Tryz.f186),(187,Go.Proofs.Tryz.f187),(188,Go.Proofs.Tryz.f188),(189,Go.Proofs.Tryz.f189),(190,Go.Proofs.Tryz.f190),(192,Go.Proofs.Tryz.f192),(193,Go.Proofs.Tryz.f193),(194,Go.Proofs.Tryz.f194),(195,Go.Proofs.Tryz.f195),(196,Go.Proofs.Tryz.f196),(197,Go.Proofs.Tryz.f197),(198,Go.Proofs.Tryz.f198),(199,Go.Proofs.Tryz.f199),(200,Go.Proofs.Tryz.f200),(201,Go.Proofs.Tryz.f201)]
theorem ftL9_ok:FOK ftL9:=.cons Go.Proofs.Tryz.func180 (.cons Go.Proofs.Tryz.func181 (.cons Go.Proofs.Tryz.func182 (.cons Go.Proofs.Tryz.func183 (.cons Go.Proofs.Tryz.func184 (.cons Go.Proofs.Tryz.func186 (.cons Go.Proofs.Tryz.func187 (.cons Go.Proofs.Tryz.func188 (.cons Go.Proofs.Tryz.func189 (.cons Go.Proofs.Tryz.func190 (.cons Go.Proofs.Tryz.func192 (.cons Go.Proofs.Tryz.func193 (.cons Go.Proofs.Tryz.func194 (.cons Go.Proofs.Tryz.func195 (.cons Go.Proofs.Tryz.func196 (.cons Go.Proofs.Tryz.func197 (.cons Go.Proofs.Tryz.func198 (.cons Go.Proofs.Tryz.func199 (.cons Go.Proofs.Tryz.func200 (.cons Go.Proofs.Tryz.func201 (.nil))))))))))))))))))))
noncomputable def ftL10:List (Nat × Func):=[(202,Go.Proofs.Tryz.f202),(203,Go.Proofs.Tryz.f203),(204,Go.Proofs.Tryz.f204),(205,Go.Proofs.Tryz.f205),(206,Go.Proofs.Tryz.f206),(207,Go.Proofs.Tryz.f207),(208,Go.Proofs.Tryz.f208),(209,Go.Proofs.Tryz.f209),(210,Go.Proofs.Tryz.f210),(211,Go.Proofs.Tryz.f211),(212,Go.Proofs.Tryz.f212),(213,Go.Proofs.Tryz.f213),(214,Go.Proofs.Tryz.f214),(215,Go.Proofs.Tryz.f215)]
theorem ftL10_ok:FOK ftL10:=.cons Go.Proofs.Tryz.func202 (.cons Go.Proofs.Tryz.func203 (.cons Go.Proofs.Tryz.func204 (.cons Go.Proofs.Tryz.func205 (.cons Go.Proofs.Tryz.func206 (.cons Go.Proofs.Tryz.func207 (.cons Go.Proofs.Tryz.func208 (.cons Go.Proofs.Tryz.func209 (.cons Go.Proofs.Tryz.func210 (.cons Go.Proofs.Tryz.func211 (.cons Go.Proofs.Tryz.func212 (.cons Go.Proofs.Tryz.func213 (.cons Go.Proofs.Tryz.func214 (.cons Go.Proofs.Tryz.func215 (.nil))))))))))))))
noncomputable def ftL:List (Nat × Func):=ftL0++(ftL1++(ftL2++(ftL3++(ftL4++(ftL5++(ftL6++(ftL7++(ftL8++(ftL9++(ftL10))))))))))
theorem ftL_ok:FOK ftL:=FOK.append ftL0_ok (FOK.append ftL1_ok (FOK.append ftL2_ok (FOK.append ftL3_ok (FOK.append ftL4_ok (FOK.append ftL5_ok (FOK.append ftL6_ok (FOK.append ftL7_ok (FOK.append ftL8_ok (FOK.append ftL9_ok ftL10_ok)))))))))
def plL:List (Nat × List (Nat × Plan)):=[
 (6,[(5,⟨[0,1,2,3,4,5,6,7,8,9,10,11,12,13],[14,15],[(16,true),(17,false)],[]⟩),(6,⟨[0,1,2,3,4,5,6,7,8,9,10],[],[],[]⟩),(8,⟨[0,1,2,3,4,5,6,7,8,9,10,11,12,13,14,15,16,17,18,19,20,21,22,23,24,25,26,27,28,29,30,31,32,33,34,35,36,37,38,39,40,41,42,43,44,45,46,47],[],[],[]⟩),(11,⟨[0,1,2,3,4,5,6,7,8,9,10,11,12,13,14,15,16,17,18,19,20,21,22,23,24,25,26,27,28,29,30,31,32,33,34,35,36,37,38,39,40,41,42,43,44,45,46,47,48],[],[],[]⟩),(16,⟨[0,1,2,3,4,5,6,7,8,9,10,11,12,13,14,15,16,17,18,19,20,21],[],[],[]⟩)]),
 (9,[(3,⟨[0,1,2,3,4,5,6,7,8,9,10],[],[],[]⟩)]),
 (12,[(24,⟨[0,1,2,3,4,5,6,7,8,9,10,11,12,13,14,15,16,17,18,19,20,21,22,23,24,25,26,27,28,29,30,31,32],[],[],[]⟩),(31,⟨[0,1,2,3,4,5,6,7,8,9,10,11,12,13,14],[],[],[]⟩)]),
 (15,[(12,⟨[0,1,2,3,4,5,6,7,8,9,10,11,12,13,14,15,16,17,18,19,20,21,22,23,24,25,26,27,28,29,30,31,32,33,34,35,36,37,38],[],[],[]⟩)]),
 (17,[(12,⟨[0,1,2,3,4,5,6,7,8],[],[],[]⟩)]),
 (20,[(7,⟨[0,1,2,3,4,5,6,7,8,9,10,11,12,13,14,15,16,17,18,19,20,21],[],[],[]⟩)]),
 (21,[(8,⟨[0,1,2,3,4,5,6,7,8,9,10,11,12,13,14,15,16,17,18,19],[],[],[]⟩)]),
 (23,[(16,⟨[0,1,2,3,4,5,6,7,8,9],[],[],[]⟩)]),
 (24,[(6,⟨[0,1,2,3,4,5,6,7,8],[],[],[]⟩)]),
 (25,[(11,⟨[0,1,2,3,4,5,6,7,8,9,10,11,12,13,14,15,16,17,18],[19,20],[(21,true),(22,false)],[]⟩),(24,⟨[0,1,2,3,4,5,6,7,8,9,10],[],[(11,false),(12,false),(13,false),(14,false)],[]⟩)]),
 (26,[(16,⟨[0,1,2,3,4,5,6,7,8,9,10,11,12,13,14,15,16,17,18,19,20,21],[],[(22,false),(23,false),(24,false)],[]⟩),(17,⟨[1,2,3,5,6,7,8],[],[(0,true),(4,true),(9,false),(10,false)],[]⟩),(18,⟨[0,1,2,3,4,5,6,7,8,9,10],[],[(11,false),(12,false),(13,false),(14,false)],[]⟩)]),
 (27,[(6,⟨[0,1,2,3,4,5,6,7,8],[],[],[]⟩)]),
 (34,[(12,⟨[0,1,2,3,4,5,6],[],[],[]⟩),(23,⟨[0,1,2,3,4,5,6,7],[],[],[]⟩),(24,⟨[0,1,2,3,4,5,6,7,8,9,10,11,12,13,14,15,16,17],[],[],[]⟩)]),
 (35,[(18,⟨[0,1,2,3,4,5,6,7,8,9,10,11,12],[],[(13,false)],[]⟩)]),
 (36,[(8,⟨[0,1,2,3,4,5,6,7,8,9,10,11,12,13,14],[],[(15,false),(16,false),(17,false)],[]⟩),(9,⟨[0,1,2,3,4,5,6,7,8,9,10,11,12,13,14,15,16,17,18,19,20],[],[],[]⟩),(15,⟨[0,1,2,3,4,5,6,7,8,9,10,11],[],[(12,false)],[]⟩),(16,⟨[0,1,2,3,4,5,6,7,8,9,10],[11],[(12,false)],[]⟩),(17,⟨[0,1,2,3,4,5],[],[(6,false)],[]⟩),(24,⟨[0,1,2,3,4,5],[],[(6,false)],[]⟩),(25,⟨[0,1,2,3,4,5],[],[(6,false)],[]⟩)]),
 (37,[(7,⟨[0,1,2,3,4,5],[],[],[]⟩),(19,⟨[0,1,2,3,4,5,6,7,8,9,10,11,12,13,14,15,16,17,18,19,20,21,22,23,24],[25],[(26,false)],[]⟩)]),
 (38,[(7,⟨[0,1,2,3,4,5],[],[],[]⟩),(18,⟨[0,1,2,3,4,5,6,7,8,9,10,11,12,13,14,15,16,17,18,19,20,21,22,23],[],[],[]⟩),(19,⟨[0,1,2,3,4,5,6,7,8,9,10,11,12,13,14,15,16,17,18,19,20,21],[],[],[]⟩),(24,⟨[0,1,2,3,4,5,6,7,8,9,10,11,12,13,14,15,16,17],[],[],[]⟩),(25,⟨[0,1,2,3,4,5,6,7,8,9],[],[],[]⟩)]),
 (39,[(27,⟨[0,1,2,3,4,5,6,7,8,9,10],[],[(11,false),(12,false),(13,false)],[]⟩)]),
 (40,[(21,⟨[0,1,2,3,4,5,6,7,8,9,12],[],[(10,false),(11,false)],[]⟩)]),
 (41,[(6,⟨[0,1,2,3,4,5,6,7,8],[],[],[]⟩)]),
 (42,[(7,⟨[0,1,2,3,4,5,6,7,8,9,10,11,12,13,14,15,16,17,18,19,20,21,22,23,24,25],[],[],[]⟩)]),
 (46,[(13,⟨[0,1,2,3,4,5,6,7,8,9,10,11,12],[],[(13,false),(14,false),(15,false)],[]⟩)]),
 (47,[(11,⟨[0,1,2,3,4,5,6,7,8,9],[10],[(11,false)],[]⟩),(15,⟨[0,1,2,3,4,5,6,7,8,9],[],[],[]⟩),(17,⟨[0,1,2,3,4,5,6,7,8,9],[10],[(11,false)],[]⟩),(19,⟨[0,1,2,3,4,5,6,7,8,9,10,11,12,13,14,15,16,17,18,19,20,21,22,23],[],[],[]⟩)]),
 (48,[(6,⟨[0,1,2,3,4,5,6,7,8,9,10,11],[],[],[]⟩),(7,⟨[0,1,2,3,4,5,6,7,8,9,10,11,12,13,14,15,16,17,18,19,20,21,22,23,24,25,26,27],[],[],[]⟩)]),
 (49,[(1,⟨[0,1,2,3,4,5,6,7,8,9,10,11,12],[],[],[]⟩)]),
 (50,[(9,⟨[0,1,2,3,4,5,6,7,8,9,10,11,12,13,14,15,16,17,18,19,20,21,22],[],[],[]⟩),(17,⟨[0,1,2,3,4,5,6,7,8,9,10,11,12],[],[],[]⟩)]),
 (53,[(9,⟨[0,1,2,3,4,5],[],[(6,false),(7,false),(8,false)],[]⟩),(11,⟨[0,1,2,3,4,5,6,7,8,9,10,11,12,13,14,15],[],[],[]⟩),(12,⟨[0,1,2,3,4,5,6,7,8,9,10,11,12,13,14,15],[],[],[]⟩),(15,⟨[0,1,2,3,4,5,6,7,8,9,10,11,12,13,14,15,16,17,18,19,20,21],[],[(22,false),(23,false),(24,false)],[]⟩)]),
 (54,[(5,⟨[0,1,2,3,4,5,6,7,8,9,10,11],[],[],[]⟩),(11,⟨[0,1,2,3,4,5,6,7,8,9,10,11,12],[],[],[]⟩)]),
 (56,[(1,⟨[0,1,2,3,4,5,6,7,8,9,10,11,12,13,14,15],[],[],[]⟩),(10,⟨[0,1,2,3,4,5,6,7,8,9,10,11,12,13,14,15],[],[],[]⟩)]),
 (57,[(1,⟨[0,1,2,3,4,5,6,7,8,9,10,11,12],[],[(13,false)],[]⟩)]),
 (61,[(1,⟨[0,1,2,3,4,5,6,7,8,9,10,11,12],[],[(13,false)],[]⟩)]),
 (62,[(5,⟨[0,1,2,3,4,5,6,7,8,9,10,11,12,13,14,15,16,17,18,19,20,21],[],[],[]⟩)]),
 (67,[(5,⟨[0,1,2,3,4,5],[],[(6,false),(7,false)],[]⟩)]),
 (68,[(2,⟨[0,1,2,3,4,5,6,7,8,9,10,11,12,13,14,15,16,17,18,19,20],[21],[(22,false)],[]⟩),(8,⟨[0,1,2,3,4,5,6,7,8,9,10,11,12,13,14,15,16,17,18,19,20,21,22,23,24,25],[],[],[]⟩),(9,⟨[0,1,2,3,4,5,6],[],[],[]⟩)]),
 (71,[(8,⟨[0,1,2,3],[4,5],[(6,true),(7,false)],[]⟩)]),
 (78,[(1,⟨[0,1,2,3,4,5,6,7,8,9],[],[(10,false),(11,false),(12,false)],[]⟩)]),
 (79,[(6,⟨[0,1,2,3,4,5,6,7,8,9],[],[],[]⟩),(11,⟨[0,1,2,3,4,5,6,7,8,9],[],[],[]⟩)]),
 (80,[(5,⟨[0,1,2,3,4,5,6,7,8,9,10,11,12,13,14,15,16,17,18,19],[],[],[]⟩)]),
 (81,[(3,⟨[0,1,2,3,4,5,6,7,8,9,10,11,12],[],[(13,false),(14,false),(15,false)],[]⟩)]),
 (89,[(4,⟨[0,1,2,3,4,5],[],[],[]⟩)]),
 (90,[(9,⟨[0,1,2,3,4,5,6,7,8,9,10,11,12,13,14,15,16,17,18,19,20,21,22,23,24,25,26,27,28,29,30,31,32,33],[],[],[]⟩)]),
 (91,[(12,⟨[0,1,2,3,4,5,6,7,8,9,10,11,12,13,14],[],[(15,false),(16,false),(17,false)],[]⟩),(13,⟨[0,1,2,3,4,5,6,7,8,9,10,11,12,13,14],[],[(15,false),(16,false),(17,false)],[]⟩)]),
 (93,[(10,⟨[0,1,2,3,4,5,6,7,8,9],[],[],[]⟩)]),
 (94,[(2,⟨[0,1,2,3],[],[(4,true),(5,false)],[]⟩),(3,⟨[0,1,2,3],[],[(4,true),(5,false)],[]⟩)]),
 (96,[(1,⟨[0,1,2,3,4,5,6,7,8,9],[],[(10,false),(11,false),(12,false)],[]⟩)]),
 (98,[(6,⟨[0,1,2,3,4,5,6,7,8,9],[],[],[]⟩),(11,⟨[0,1,2,3,4,5,6,7,8,9],[],[],[]⟩)]),
 (99,[(10,⟨[0,1,2,3,4,5,6,7,8,9],[],[],[]⟩)]),
 (101,[(3,⟨[0,1,2,3,4,5,6],[],[],[]⟩),(6,⟨[0,1,2,3,4,5,6,7,8,9,10,11],[],[],[]⟩),(9,⟨[0,1,4,5,6],[],[(2,true),(3,true),(7,false),(8,false)],[]⟩)]),
 (112,[(6,⟨[0,1,2,3,4,5,6,7,8],[],[],[]⟩)]),
 (117,[(6,⟨[0,1,2,3,4,5,6,7,8],[],[],[]⟩)]),
 (118,[(4,⟨[0,1,2,3,4,5,6,7,8,9,10,11,12,13,14,15,16],[17,18],[(19,true),(20,false)],[]⟩),(5,⟨[0,1,2,3,4,5,6,7,8,9,10,11,12,13,14,15,16,17,18,19,20,21,22,23],[],[],[]⟩)]),
 (119,[(5,⟨[0,1,2,3,4,5,6,7,8,9,10,11,12,13,14,15,16,17,18,19,20,21,22,23],[],[],[]⟩)]),
 (120,[(13,⟨[0,1,2,3,4,5,6,7,8,9,10,11,12,13,14,15,16,17,18,19,20,21,22,23,24,25,26,27],[],[],[]⟩)]),
 (122,[(5,⟨[0,1,2,3,4,5,6,7,8,9],[],[],[]⟩),(16,⟨[0,1,2,3,4,5,6,7,8,9],[],[],[]⟩),(29,⟨[0,1,2,3,4,5,6,7,8,9],[],[],[]⟩),(30,⟨[0,1,2,3,4,5,6,7,8,9],[],[],[]⟩),(46,⟨[0,1,2,3,4,5,6,7,8,9,10,11,12,13,14,15],[],[],[]⟩)]),
 (123,[(9,⟨[0,1,2,3,4,5,6,7,8,9,10,11,12,13,14,15],[],[],[]⟩),(10,⟨[0,1,2,3,4,5,6,7,8,9,10,11,12,13,14,15],[],[],[]⟩)]),
 (124,[(4,⟨[0,1,2,3,4,5,6],[],[(7,false)],[]⟩)]),
 (129,[(1,⟨[0,1,2,3,4,5],[],[(6,false),(7,false),(8,false)],[]⟩)]),
 (130,[(4,⟨[0,1,2,3,4,5],[],[],[]⟩)]),
 (131,[(7,⟨[0,1,2,3,4,5,6,7],[],[],[]⟩)]),
 (138,[(17,⟨[0,1,2,3,4,5,6,7,8,9,10,11,12,13,14,15,16],[],[],[]⟩)]),
 (143,[(6,⟨[0,1,2,3,4,5,6],[],[],[]⟩),(7,⟨[0,1,2,3,4,5,6],[],[],[]⟩),(12,⟨[0,1,2,3,4,5,6,7,8,9,10,11],[],[(12,false)],[]⟩)]),
 (145,[(17,⟨[0,1,2,3,4,5,6,7,8,9,10,11,12,13,14,15,16],[],[],[]⟩)]),
 (148,[(4,⟨[0,1,2,3,4,5,6,7,8,9],[10],[(11,false)],[]⟩)]),
 (149,[(17,⟨[0,1,2,3,4,5,6,7,8,9,10,11,12,13,14,15,16],[],[],[]⟩)]),
 (150,[(1,⟨[0,1,2,3,4,5,6,7,8,9,10,11,12,13,14,15],[],[],[]⟩)]),
 (153,[(6,⟨[0,1,2,3,4,5,6,7,8,9],[],[],[]⟩),(11,⟨[0,1,2,3,4,5,6,7,8,9],[],[],[]⟩)]),
 (154,[(17,⟨[0,1,2,3,4,5,6,7,8,9,10,11,12,13,14],[],[],[]⟩)]),
 (158,[(2,⟨[0,1,2,3],[],[(4,false),(5,false)],[]⟩)]),
 (162,[(4,⟨[0,1,2,3,4,5,6,7,8,9,10,11,12,13,14,15,16],[],[],[]⟩),(6,⟨[0,1,2,3,4,5,6,7,8,9,10,11,12,13,14],[],[(15,false),(16,false),(17,false)],[]⟩)]),
 (163,[(10,⟨[0,1,2,3,4,5,6,7,8,9,10,11,12,13,14,15,16],[],[(17,false),(18,false),(19,false)],[]⟩)]),
 (164,[(10,⟨[0,1,2,3,4,5,6,7,8,9,10,11,12,13,14,15,16],[],[(17,false),(18,false),(19,false)],[]⟩)]),
 (166,[(3,⟨[0,1,2,3,4,5,6,7,8,9,10,11,12],[],[(13,false),(14,false),(15,false)],[]⟩)]),
 (167,[(5,⟨[0,1,2,3,4,5,6,7,8,9,10,11,12,13,14,15,16,17],[],[],[]⟩),(11,⟨[0,1,2,3,4,5,6,7,8,9,10,11,12,13,14],[],[(15,false),(16,false),(17,false)],[]⟩),(16,⟨[0,1,2,3,4,5,6,7,8,9,10,11,12],[],[],[]⟩),(17,⟨[0,1,2,3,4,5,6,7,8,9,10,11,12,13,14],[],[(15,false),(16,false),(17,false)],[]⟩),(22,⟨[0,1,2,3,4,5,6,7,8,9,10,11,12],[],[],[]⟩),(23,⟨[0,1,2,3,4,5,6,7,8,9,10,11,12,13,14],[],[(15,false),(16,false),(17,false)],[]⟩)]),
 (168,[(1,⟨[0,1,2,3,4,5,6,7,8,9,10,11,12],[],[(13,false),(14,false),(15,false)],[]⟩),(3,⟨[0,1,2,3,4,5,6,7,8,9,10,11,12,13,14,15,16],[],[],[]⟩),(5,⟨[0,1,2,3,4,5,6,7,8,9,10,11,12,13,14,15],[],[],[]⟩),(8,⟨[0,1,2,3,4,5,6,7,8,9,10,11,12],[],[(13,false),(14,false),(15,false)],[]⟩)]),
 (169,[(1,⟨[0,1,2,3,4,5,6,7,8,9,10,11,12],[],[(13,false),(14,false),(15,false)],[]⟩),(3,⟨[0,1,2,3,4,5,6,7,8,9,10,11,12,13,14,15],[],[],[]⟩),(5,⟨[0,1,2,3,4,5,6,7,8,9,10,11,12,13,14,15,16],[],[],[]⟩),(8,⟨[0,1,2,3,4,5,6,7,8,9,10,11,12],[],[(13,false),(14,false),(15,false)],[]⟩),(10,⟨[0,1,2,3,4,5,6,7,8,9,10,11,12],[],[(13,false),(14,false),(15,false)],[]⟩),(13,⟨[0,1,2,3,4,5,6,7,8,9,10,11,12,13,14,15],[],[],[]⟩),(15,⟨[0,1,2,3,4,5,6,7,8,9,10,11,12,13,14,15,16],[],[],[]⟩),(18,⟨[0,1,2,3,4,5,6,7,8,9,10,11,12],[],[(13,false),(14,false),(15,false)],[]⟩),(21,⟨[0,1,2,3,4,5,6,7,8,9,10,11,12],[],[(13,false),(14,false),(15,false)],[]⟩)]),
 (172,[(4,⟨[0,1,2,3,4,5,6,7,8,9,10,11,12,13,14,15,16],[],[],[]⟩),(6,⟨[0,1,2,3,4,5,6,7,8,9,10,11,12,13,14],[],[(15,false),(16,false),(17,false)],[]⟩)]),
 (173,[(10,⟨[0,1,2,3,4,5,6,7,8,9,10,11,12,13,14,15,16],[],[(17,false),(18,false),(19,false)],[]⟩)]),
 (174,[(10,⟨[0,1,2,3,4,5,6,7,8,9,10,11,12,13,14,15,16],[],[(17,false),(18,false),(19,false)],[]⟩)]),
 (176,[(3,⟨[0,1,2,3,4,5,6,7,8,9,10,11,12],[],[(13,false),(14,false),(15,false)],[]⟩)]),
 (177,[(5,⟨[0,1,2,3,4,5,6,7,8,9,10,11,12,13,14,15,16,17],[],[],[]⟩),(11,⟨[0,1,2,3,4,5,6,7,8,9,10,11,12,13,14],[],[(15,false),(16,false),(17,false)],[]⟩),(16,⟨[0,1,2,3,4,5,6,7,8,9,10,11,12],[],[],[]⟩),(17,⟨[0,1,2,3,4,5,6,7,8,9,10,11,12,13,14],[],[(15,false),(16,false),(17,false)],[]⟩),(22,⟨[0,1,2,3,4,5,6,7,8,9,10,11,12],[],[],[]⟩),(23,⟨[0,1,2,3,4,5,6,7,8,9,10,11,12,13,14],[],[(15,false),(16,false),(17,false)],[]⟩)]),
 (178,[(1,⟨[0,1,2,3,4,5,6,7,8,9,10,11,12],[],[(13,false),(14,false),(15,false)],[]⟩),(3,⟨[0,1,2,3,4,5,6,7,8,9,10,11,12,13,14,15,16],[],[],[]⟩),(5,⟨[0,1,2,3,4,5,6,7,8,9,10,11,12,13,14,15],[],[],[]⟩),(8,⟨[0,1,2,3,4,5,6,7,8,9,10,11,12],[],[(13,false),(14,false),(15,false)],[]⟩)]),
 (179,[(1,⟨[0,1,2,3,4,5,6,7,8,9,10,11,12],[],[(13,false),(14,false),(15,false)],[]⟩),(3,⟨[0,1,2,3,4,5,6,7,8,9,10,11,12,13,14,15],[],[],[]⟩),(5,⟨[0,1,2,3,4,5,6,7,8,9,10,11,12,13,14,15,16],[],[],[]⟩),(8,⟨[0,1,2,3,4,5,6,7,8,9,10,11,12],[],[(13,false),(14,false),(15,false)],[]⟩),(10,⟨[0,1,2,3,4,5,6,7,8,9,10,11,12],[],[(13,false),(14,false),(15,false)],[]⟩),(13,⟨[0,1,2,3,4,5,6,7,8,9,10,11,12,13,14,15],[],[],[]⟩),(15,⟨[0,1,2,3,4,5,6,7,8,9,10,11,12,13,14,15,16],[],[],[]⟩),(18,⟨[0,1,2,3,4,5,6,7,8,9,10,11,12],[],[(13,false),(14,false),(15,false)],[]⟩),(21,⟨[0,1,2,3,4,5,6,7,8,9,10,11,12],[],[(13,false),(14,false),(15,false)],[]⟩)]),
 (180,[(4,⟨[0,1,2,3,4,5,6,7,8,9,10,11,12,13,14,15,16],[],[],[]⟩),(6,⟨[0,1,2,3,4,5,6,7,8,9,10,11,12,13,14],[],[(15,false),(16,false),(17,false)],[]⟩)]),
 (181,[(10,⟨[0,1,2,3,4,5,6,7,8,9,10,11,12,13,14,15,16],[],[(17,false),(18,false),(19,false)],[]⟩)]),
 (182,[(10,⟨[0,1,2,3,4,5,6,7,8,9,10,11,12,13,14,15,16],[],[(17,false),(18,false),(19,false)],[]⟩)]),
 (184,[(3,⟨[0,1,2,3,4,5,6,7,8,9,10,11,12],[],[(13,false),(14,false),(15,false)],[]⟩)]),
 (185,[(5,⟨[0,1,2,3,4,5,6,7,8,9,10,11,12,13,14,15,16,17],[],[],[]⟩),(11,⟨[0,1,2,3,4,5,6,7,8,9,10,11,12,13,14],[],[(15,false),(16,false),(17,false)],[]⟩),(16,⟨[0,1,2,3,4,5,6,7,8,9,10,11,12],[],[],[]⟩),(17,⟨[0,1,2,3,4,5,6,7,8,9,10,11,12,13,14],[],[(15,false),(16,false),(17,false)],[]⟩),(22,⟨[0,1,2,3,4,5,6,7,8,9,10,11,12],[],[],[]⟩),(23,⟨[0,1,2,3,4,5,6,7,8,9,10,11,12,13,14],[],[(15,false),(16,false),(17,false)],[]⟩)]),
 (186,[(1,⟨[0,1,2,3,4,5,6,7,8,9,10,11,12],[],[(13,false),(14,false),(15,false)],[]⟩),(3,⟨[0,1,2,3,4,5,6,7,8,9,10,11,12,13,14,15,16],[],[],[]⟩),(5,⟨[0,1,2,3,4,5,6,7,8,9,10,11,12,13,14,15],[],[],[]⟩),(8,⟨[0,1,2,3,4,5,6,7,8,9,10,11,12],[],[(13,false),(14,false),(15,false)],[]⟩)]),
 (187,[(1,⟨[0,1,2,3,4,5,6,7,8,9,10,11,12],[],[(13,false),(14,false),(15,false)],[]⟩),(3,⟨[0,1,2,3,4,5,6,7,8,9,10,11,12,13,14,15],[],[],[]⟩),(5,⟨[0,1,2,3,4,5,6,7,8,9,10,11,12,13,14,15,16],[],[],[]⟩),(8,⟨[0,1,2,3,4,5,6,7,8,9,10,11,12],[],[(13,false),(14,false),(15,false)],[]⟩),(10,⟨[0,1,2,3,4,5,6,7,8,9,10,11,12],[],[(13,false),(14,false),(15,false)],[]⟩),(13,⟨[0,1,2,3,4,5,6,7,8,9,10,11,12,13,14,15],[],[],[]⟩),(15,⟨[0,1,2,3,4,5,6,7,8,9,10,11,12,13,14,15,16],[],[],[]⟩),(18,⟨[0,1,2,3,4,5,6,7,8,9,10,11,12],[],[(13,false),(14,false),(15,false)],[]⟩),(21,⟨[0,1,2,3,4,5,6,7,8,9,10,11,12],[],[(13,false),(14,false),(15,false)],[]⟩)]),
 (189,[(4,⟨[0,1,2,3,4,5,6,7,8,9,10,11,12,13,14],[],[],[]⟩),(6,⟨[0,1,2,3,4,5,6,7,8,9,10,11,12,13,14],[],[(15,false),(16,false),(17,false)],[]⟩)]),
 (190,[(10,⟨[0,1,2,3,4,5,6,7,8,9,10,11,12,13,14,15,16],[],[(17,false),(18,false),(19,false)],[]⟩)]),
 (191,[(10,⟨[0,1,2,3,4,5,6,7,8,9,10,11,12,13,14,15,16],[],[(17,false),(18,false),(19,false)],[]⟩)]),
 (193,[(3,⟨[0,1,2,3,4,5,6,7,8,9,10,11,12],[],[(13,false),(14,false),(15,false)],[]⟩)]),
 (194,[(5,⟨[0,1,2,3,4,5,6,7,8,9,10,11,12,13,14,15],[],[],[]⟩),(11,⟨[0,1,2,3,4,5,6,7,8,9,10,11,12,13,14],[],[(15,false),(16,false),(17,false)],[]⟩),(16,⟨[0,1,2,3,4,5,6,7,8,9,10],[],[],[]⟩),(17,⟨[0,1,2,3,4,5,6,7,8,9,10,11,12,13,14],[],[(15,false),(16,false),(17,false)],[]⟩),(22,⟨[0,1,2,3,4,5,6,7,8,9,10],[],[],[]⟩),(23,⟨[0,1,2,3,4,5,6,7,8,9,10,11,12,13,14],[],[(15,false),(16,false),(17,false)],[]⟩)]),
 (196,[(1,⟨[0,1,2,3,4,5,6,7,8,9,10,11,12],[],[(13,false),(14,false),(15,false)],[]⟩),(3,⟨[0,1,2,3,4,5,6,7,8,9,10,11,12,13,14],[],[],[]⟩),(5,⟨[0,1,2,3,4,5,6,7,8,9,10,11,12,13],[],[],[]⟩),(8,⟨[0,1,2,3,4,5,6,7,8,9,10,11,12],[],[(13,false),(14,false),(15,false)],[]⟩)]),
 (197,[(1,⟨[0,1,2,3,4,5,6,7,8,9,10,11,12],[],[(13,false),(14,false),(15,false)],[]⟩),(3,⟨[0,1,2,3,4,5,6,7,8,9,10,11,12,13],[],[],[]⟩),(5,⟨[0,1,2,3,4,5,6,7,8,9,10,11,12,13,14],[],[],[]⟩),(8,⟨[0,1,2,3,4,5,6,7,8,9,10,11,12],[],[(13,false),(14,false),(15,false)],[]⟩),(10,⟨[0,1,2,3,4,5,6,7,8,9,10,11,12],[],[(13,false),(14,false),(15,false)],[]⟩),(13,⟨[0,1,2,3,4,5,6,7,8,9,10,11,12,13],[],[],[]⟩),(15,⟨[0,1,2,3,4,5,6,7,8,9,10,11,12,13,14],[],[],[]⟩),(18,⟨[0,1,2,3,4,5,6,7,8,9,10,11,12],[],[(13,false),(14,false),(15,false)],[]⟩),(21,⟨[0,1,2,3,4,5,6,7,8,9,10,11,12],[],[(13,false),(14,false),(15,false)],[]⟩)]),
 (198,[(3,⟨[0,1,2,3,4,5,6,7,8,9,10,11,12,13,14,15,16,17,18,19,20,21],[],[],[]⟩),(5,⟨[0,1,2,3,4,5,6,7,8,9,10,11,12,13,14,15],[],[],[]⟩),(6,⟨[0,1,2,3,4,5,6,7,8,9,10,11,12,13,14,15,16,17,18,19,20],[],[(21,false),(22,false),(23,false)],[]⟩)]),
 (200,[(1,⟨[0,1,2,3,4,5,6,7,8],[],[(9,false)],[]⟩),(2,⟨[0,1,2,3,4,5,6,7,8],[],[(9,false)],[]⟩),(3,⟨[0,1,2,3,4,5,6,7,8],[],[(9,false)],[]⟩)]),
 (203,[(3,⟨[0,1,2,3,4,5,6,7,8,9,10,11,12,13,14,15,16,17,18,19,20,21],[],[],[]⟩),(5,⟨[0,1,2,3,4,5,6,7,8,9,10,11,12,13,14,15],[],[],[]⟩),(6,⟨[0,1,2,3,4,5,6,7,8,9,10,11,12,13,14,15,16,17,18,19,20],[],[(21,false),(22,false),(23,false)],[]⟩)]),
 (206,[(3,⟨[0,1,2,3,4,5,6,7,8,9,10,11,12,13,14,15,16,17,18,19,20,21],[],[],[]⟩),(5,⟨[0,1,2,3,4,5,6,7,8,9,10,11,12,13,14,15],[],[],[]⟩),(6,⟨[0,1,2,3,4,5,6,7,8,9,10,11,12,13,14,15,16,17,18,19,20],[],[(21,false),(22,false),(23,false)],[]⟩)]),
 (209,[(3,⟨[0,1,2,3,4,5,6,7,8,9,10,11,12,13,14,15,16,17,18,19],[],[],[]⟩),(5,⟨[0,1,2,3,4,5,6,7,8,9,10,11,12,13],[],[],[]⟩),(6,⟨[0,1,2,3,4,5,6,7,8,9,10,11,12,13,14,15,16,17,18,19,20],[],[(21,false),(22,false),(23,false)],[]⟩)]),
 (212,[(1,⟨[0,1,2,3,4,5,6,7,8,9,10],[],[],[]⟩)]),
 (213,[(1,⟨[0,1,2,3,4,5,6,7,8,9,10],[],[],[]⟩)]),
 (214,[(1,⟨[0,1,2,3,4,5,6,7,8,9,10],[],[],[]⟩)]),
 (215,[(1,⟨[0,1,2,3,4,5,6,7,8],[],[],[]⟩)])
]
def plF (f r:Nat):Option Plan:=match look plL f with|some l=>look l r|none=>none
def fnB (f : Nat)(fn : Func) : Bool := (!(fn.name == "runtime.NumGoroutine")) && (match fn.body with | some b => plansOK (plF f) b | none => true)
def ftB:List (Nat × Func)→Bool|[]=>true|(f,fn)::r=>fnB f fn&&ftB r
theorem ftB_append {l m:List (Nat × Func)}(h:ftB l=true)(hm:ftB m=true):ftB (l++m)=true:=by
 induction l with
 |nil=>exact hm
 |cons x r ih=>simp only [List.cons_append,ftB,Bool.and_eq_true] at h ⊢;exact⟨h.1,ih h.2⟩
theorem ftL0_B:ftB ftL0=true:=by decide +kernel
theorem ftL1_B:ftB ftL1=true:=by decide +kernel
theorem ftL2_B:ftB ftL2=true:=by decide +kernel
theorem ftL3_B:ftB ftL3=true:=by decide +kernel
theorem ftL4_B:ftB ftL4=true:=by decide +kernel
theorem ftL5_B:ftB ftL5=true:=by decide +kernel
theorem ftL6_B:ftB ftL6=true:=by decide +kernel
theorem ftL7_B:ftB ftL7=true:=by decide +kernel
theorem ftL8_B:ftB ftL8=true:=by decide +kernel
theorem ftL9_B:ftB ftL9=true:=by decide +kernel
theorem ftL10_B:ftB ftL10=true:=by decide +kernel
theorem ftB_ok:ftB ftL=true:=ftB_append ftL0_B (ftB_append ftL1_B (ftB_append ftL2_B (ftB_append ftL3_B (ftB_append ftL4_B (ftB_append ftL5_B (ftB_append ftL6_B (ftB_append ftL7_B (ftB_append ftL8_B (ftB_append ftL9_B ftL10_B)))))))))
end Go.Aw
end
