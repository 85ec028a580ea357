/-
  Parts of a proof. No condition.
-/
import Derived.Test.YticajjhjehljpaaGreatQAe
set_option linter.unusedSimpArgs false
set_option linter.unusedVariables false
noncomputable section
namespace Go.Aw
def zP (l:List (Nat × Func)):Prop:=∀ p∈l,Go.Proofs.Tryz.prog.funcs[p.1]? = some p.2
theorem zP.nil:zP []:=fun _ h=>by cases h
theorem zP.cons {n:Nat}{f:Func}{l:List (Nat × Func)}(h:Go.Proofs.Tryz.prog.funcs[n]? = some f)(hl:zP l):zP ((n,f)::l):=List.forall_mem_cons.2 ⟨h,hl⟩
theorem zP.append {l m:List (Nat × Func)}(h:zP l)(hm:zP m):zP (l++m):=fun p hp=>(List.mem_append.1 hp).elim (h p) (hm p)
noncomputable def aK9:List (Nat × Func):=[(3,Go.Proofs.Tryz.f3),(4,Go.Proofs.Tryz.f4),(5,Go.Proofs.Tryz.f5),(6,Go.Proofs.Tryz.f6),(7,Go.Proofs.Tryz.f7),(8,Go.Proofs.Tryz.f8),(9,Go.Proofs.Tryz.f9),(10,Go.Proofs.Tryz.f10),(11,Go.Proofs.Tryz.f11),(12,Go.Proofs.Tryz.f12),(13,Go.Proofs.Tryz.f13),(14,Go.Proofs.Tryz.f14),(15,Go.Proofs.Tryz.f15),(16,Go.Proofs.Tryz.f16),(17,Go.Proofs.Tryz.f17),(18,Go.Proofs.Tryz.f18),(19,Go.Proofs.Tryz.f19),(20,Go.Proofs.Tryz.f20),(21,Go.Proofs.Tryz.f21),(22,Go.Proofs.Tryz.f22)]
theorem aG2:zP aK9:=.cons Go.Proofs.Tryz.func3 (.cons Go.Proofs.Tryz.func4 (.cons Go.Proofs.Tryz.func5 (.cons Go.Proofs.Tryz.func6 (.cons Go.Proofs.Tryz.func7 (.cons Go.Proofs.Tryz.func8 (.cons Go.Proofs.Tryz.func9 (.cons Go.Proofs.Tryz.func10 (.cons Go.Proofs.Tryz.func11 (.cons Go.Proofs.Tryz.func12 (.cons Go.Proofs.Tryz.func13 (.cons Go.Proofs.Tryz.func14 (.cons Go.Proofs.Tryz.func15 (.cons Go.Proofs.Tryz.func16 (.cons Go.Proofs.Tryz.func17 (.cons Go.Proofs.Tryz.func18 (.cons Go.Proofs.Tryz.func19 (.cons Go.Proofs.Tryz.func20 (.cons Go.Proofs.Tryz.func21 (.cons Go.Proofs.Tryz.func22 (.nil))))))))))))))))))))
noncomputable def aJp:List (Nat × Func):=[(23,Go.Proofs.Tryz.f23),(24,Go.Proofs.Tryz.f24),(25,Go.Proofs.Tryz.f25),(26,Go.Proofs.Tryz.f26),(27,Go.Proofs.Tryz.f27),(28,Go.Proofs.Tryz.f28),(29,Go.Proofs.Tryz.f29),(30,Go.Proofs.Tryz.f30),(31,Go.Proofs.Tryz.f31),(32,Go.Proofs.Tryz.f32),(33,Go.Proofs.Tryz.f33),(34,Go.Proofs.Tryz.f34),(35,Go.Proofs.Tryz.f35),(36,Go.Proofs.Tryz.f36),(37,Go.Proofs.Tryz.f37),(38,Go.Proofs.Tryz.f38),(39,Go.Proofs.Tryz.f39),(40,Go.Proofs.Tryz.f40),(41,Go.Proofs.Tryz.f41),(42,Go.Proofs.Tryz.f42)]
theorem aGp:zP aJp:=.cons Go.Proofs.Tryz.func23 (.cons Go.Proofs.Tryz.func24 (.cons Go.Proofs.Tryz.func25 (.cons Go.Proofs.Tryz.func26 (.cons Go.Proofs.Tryz.func27 (.cons Go.Proofs.Tryz.func28 (.cons Go.Proofs.Tryz.func29 (.cons Go.Proofs.Tryz.func30 (.cons Go.Proofs.Tryz.func31 (.cons Go.Proofs.Tryz.func32 (.cons Go.Proofs.Tryz.func33 (.cons Go.Proofs.Tryz.func34 (.cons Go.Proofs.Tryz.func35 (.cons Go.Proofs.Tryz.func36 (.cons Go.Proofs.Tryz.func37 (.cons Go.Proofs.Tryz.func38 (.cons Go.Proofs.Tryz.func39 (.cons Go.Proofs.Tryz.func40 (.cons Go.Proofs.Tryz.func41 (.cons Go.Proofs.Tryz.func42 (.nil))))))))))))))))))))
noncomputable def aK0:List (Nat × Func):=[(43,Go.Proofs.Tryz.f43),(44,Go.Proofs.Tryz.f44),(45,Go.Proofs.Tryz.f45),(46,Go.Proofs.Tryz.f46),(47,Go.Proofs.Tryz.f47),(48,Go.Proofs.Tryz.f48),(49,Go.Proofs.Tryz.f49),(50,Go.Proofs.Tryz.f50),(51,Go.Proofs.Tryz.f51),(52,Go.Proofs.Tryz.f52),(53,Go.Proofs.Tryz.f53),(54,Go.Proofs.Tryz.f54),(55,Go.Proofs.Tryz.f55),(56,Go.Proofs.Tryz.f56),(57,Go.Proofs.Tryz.f57),(58,Go.Proofs.Tryz.f58),(59,Go.Proofs.Tryz.f59),(60,Go.Proofs.Tryz.f60),(61,Go.Proofs.Tryz.f61),(62,Go.Proofs.Tryz.f62)]
theorem aGd:zP aK0:=.cons Go.Proofs.Tryz.func43 (.cons Go.Proofs.Tryz.func44 (.cons Go.Proofs.Tryz.func45 (.cons Go.Proofs.Tryz.func46 (.cons Go.Proofs.Tryz.func47 (.cons Go.Proofs.Tryz.func48 (.cons Go.Proofs.Tryz.func49 (.cons Go.Proofs.Tryz.func50 (.cons Go.Proofs.Tryz.func51 (.cons Go.Proofs.Tryz.func52 (.cons Go.Proofs.Tryz.func53 (.cons Go.Proofs.Tryz.func54 (.cons Go.Proofs.Tryz.func55 (.cons Go.Proofs.Tryz.func56 (.cons Go.Proofs.Tryz.func57 (.cons Go.Proofs.Tryz.func58 (.cons Go.Proofs.Tryz.func59 (.cons Go.Proofs.Tryz.func60 (.cons Go.Proofs.Tryz.func61 (.cons Go.Proofs.Tryz.func62 (.nil))))))))))))))))))))
noncomputable def aJA:List (Nat × Func):=[(63,Go.Proofs.Tryz.f63),(64,Go.Proofs.Tryz.f64),(65,Go.Proofs.Tryz.f65),(66,Go.Proofs.Tryz.f66),(67,Go.Proofs.Tryz.f67),(68,Go.Proofs.Tryz.f68),(69,Go.Proofs.Tryz.f69),(70,Go.Proofs.Tryz.f70),(71,Go.Proofs.Tryz.f71),(72,Go.Proofs.Tryz.f72),(73,Go.Proofs.Tryz.f73),(74,Go.Proofs.Tryz.f74),(75,Go.Proofs.Tryz.f75),(76,Go.Proofs.Tryz.f76),(77,Go.Proofs.Tryz.f77),(78,Go.Proofs.Tryz.f78),(79,Go.Proofs.Tryz.f79),(80,Go.Proofs.Tryz.f80),(81,Go.Proofs.Tryz.f81),(82,Go.Proofs.Tryz.f82)]
theorem aEo:zP aJA:=.cons Go.Proofs.Tryz.func63 (.cons Go.Proofs.Tryz.func64 (.cons Go.Proofs.Tryz.func65 (.cons Go.Proofs.Tryz.func66 (.cons Go.Proofs.Tryz.func67 (.cons Go.Proofs.Tryz.func68 (.cons Go.Proofs.Tryz.func69 (.cons Go.Proofs.Tryz.func70 (.cons Go.Proofs.Tryz.func71 (.cons Go.Proofs.Tryz.func72 (.cons Go.Proofs.Tryz.func73 (.cons Go.Proofs.Tryz.func74 (.cons Go.Proofs.Tryz.func75 (.cons Go.Proofs.Tryz.func76 (.cons Go.Proofs.Tryz.func77 (.cons Go.Proofs.Tryz.func78 (.cons Go.Proofs.Tryz.func79 (.cons Go.Proofs.Tryz.func80 (.cons Go.Proofs.Tryz.func81 (.cons Go.Proofs.Tryz.func82 (.nil))))))))))))))))))))
noncomputable def aIU:List (Nat × Func):=[(83,Go.Proofs.Tryz.f83),(84,Go.Proofs.Tryz.f84),(85,Go.Proofs.Tryz.f85),(87,Go.Proofs.Tryz.f87),(89,Go.Proofs.Tryz.f89),(90,Go.Proofs.Tryz.f90),(91,Go.Proofs.Tryz.f91),(92,Go.Proofs.Tryz.f92),(93,Go.Proofs.Tryz.f93),(94,Go.Proofs.Tryz.f94),(95,Go.Proofs.Tryz.f95),(96,Go.Proofs.Tryz.f96),(97,Go.Proofs.Tryz.f97),(98,Go.Proofs.Tryz.f98),(99,Go.Proofs.Tryz.f99),(100,Go.Proofs.Tryz.f100),(101,Go.Proofs.Tryz.f101),(102,Go.Proofs.Tryz.f102),(103,Go.Proofs.Tryz.f103),(104,Go.Proofs.Tryz.f104)]
theorem aEE:zP aIU:=.cons Go.Proofs.Tryz.func83 (.cons Go.Proofs.Tryz.func84 (.cons Go.Proofs.Tryz.func85 (.cons Go.Proofs.Tryz.func87 (.cons Go.Proofs.Tryz.func89 (.cons Go.Proofs.Tryz.func90 (.cons Go.Proofs.Tryz.func91 (.cons Go.Proofs.Tryz.func92 (.cons Go.Proofs.Tryz.func93 (.cons Go.Proofs.Tryz.func94 (.cons Go.Proofs.Tryz.func95 (.cons Go.Proofs.Tryz.func96 (.cons Go.Proofs.Tryz.func97 (.cons Go.Proofs.Tryz.func98 (.cons Go.Proofs.Tryz.func99 (.cons Go.Proofs.Tryz.func100 (.cons Go.Proofs.Tryz.func101 (.cons Go.Proofs.Tryz.func102 (.cons Go.Proofs.Tryz.func103 (.cons Go.Proofs.Tryz.func104 (.nil))))))))))))))))))))
noncomputable def aHR:List (Nat × Func):=[(105,Go.Proofs.Tryz.f105),(106,Go.Proofs.Tryz.f106),(107,Go.Proofs.Tryz.f107),(108,Go.Proofs.Tryz.f108),(109,Go.Proofs.Tryz.f109),(110,Go.Proofs.Tryz.f110),(111,Go.Proofs.Tryz.f111),(112,Go.Proofs.Tryz.f112),(113,Go.Proofs.Tryz.f113),(114,Go.Proofs.Tryz.f114),(115,Go.Proofs.Tryz.f115),(116,Go.Proofs.Tryz.f116),(117,Go.Proofs.Tryz.f117),(118,Go.Proofs.Tryz.f118),(119,Go.Proofs.Tryz.f119),(120,Go.Proofs.Tryz.f120),(121,Go.Proofs.Tryz.f121),(122,Go.Proofs.Tryz.f122),(125,Go.Proofs.Tryz.f125),(126,Go.Proofs.Tryz.f126)]
theorem aFb:zP aHR:=.cons Go.Proofs.Tryz.func105 (.cons Go.Proofs.Tryz.func106 (.cons Go.Proofs.Tryz.func107 (.cons Go.Proofs.Tryz.func108 (.cons Go.Proofs.Tryz.func109 (.cons Go.Proofs.Tryz.func110 (.cons Go.Proofs.Tryz.func111 (.cons Go.Proofs.Tryz.func112 (.cons Go.Proofs.Tryz.func113 (.cons Go.Proofs.Tryz.func114 (.cons Go.Proofs.Tryz.func115 (.cons Go.Proofs.Tryz.func116 (.cons Go.Proofs.Tryz.func117 (.cons Go.Proofs.Tryz.func118 (.cons Go.Proofs.Tryz.func119 (.cons Go.Proofs.Tryz.func120 (.cons Go.Proofs.Tryz.func121 (.cons Go.Proofs.Tryz.func122 (.cons Go.Proofs.Tryz.func125 (.cons Go.Proofs.Tryz.func126 (.nil))))))))))))))))))))
noncomputable def aK3:List (Nat × Func):=[(127,Go.Proofs.Tryz.f127),(128,Go.Proofs.Tryz.f128),(129,Go.Proofs.Tryz.f129),(130,Go.Proofs.Tryz.f130),(131,Go.Proofs.Tryz.f131),(132,Go.Proofs.Tryz.f132),(133,Go.Proofs.Tryz.f133),(134,Go.Proofs.Tryz.f134),(135,Go.Proofs.Tryz.f135),(136,Go.Proofs.Tryz.f136),(137,Go.Proofs.Tryz.f137),(138,Go.Proofs.Tryz.f138),(139,Go.Proofs.Tryz.f139),(140,Go.Proofs.Tryz.f140),(141,Go.Proofs.Tryz.f141),(143,Go.Proofs.Tryz.f143),(144,Go.Proofs.Tryz.f144),(145,Go.Proofs.Tryz.f145),(146,Go.Proofs.Tryz.f146),(148,Go.Proofs.Tryz.f148)]
theorem aFS:zP aK3:=.cons Go.Proofs.Tryz.func127 (.cons Go.Proofs.Tryz.func128 (.cons Go.Proofs.Tryz.func129 (.cons Go.Proofs.Tryz.func130 (.cons Go.Proofs.Tryz.func131 (.cons Go.Proofs.Tryz.func132 (.cons Go.Proofs.Tryz.func133 (.cons Go.Proofs.Tryz.func134 (.cons Go.Proofs.Tryz.func135 (.cons Go.Proofs.Tryz.func136 (.cons Go.Proofs.Tryz.func137 (.cons Go.Proofs.Tryz.func138 (.cons Go.Proofs.Tryz.func139 (.cons Go.Proofs.Tryz.func140 (.cons Go.Proofs.Tryz.func141 (.cons Go.Proofs.Tryz.func143 (.cons Go.Proofs.Tryz.func144 (.cons Go.Proofs.Tryz.func145 (.cons Go.Proofs.Tryz.func146 (.cons Go.Proofs.Tryz.func148 (.nil))))))))))))))))))))
noncomputable def aJ0:List (Nat × Func):=[(149,Go.Proofs.Tryz.f149),(150,Go.Proofs.Tryz.f150),(151,Go.Proofs.Tryz.f151),(152,Go.Proofs.Tryz.f152),(153,Go.Proofs.Tryz.f153),(154,Go.Proofs.Tryz.f154),(156,Go.Proofs.Tryz.f156),(157,Go.Proofs.Tryz.f157),(158,Go.Proofs.Tryz.f158),(160,Go.Proofs.Tryz.f160),(162,Go.Proofs.Tryz.f162),(163,Go.Proofs.Tryz.f163),(164,Go.Proofs.Tryz.f164),(165,Go.Proofs.Tryz.f165),(166,Go.Proofs.Tryz.f166),(167,Go.Proofs.Tryz.f167),(168,Go.Proofs.Tryz.f168),(169,Go.Proofs.Tryz.f169),(171,Go.Proofs.Tryz.f171),(172,Go.Proofs.Tryz.f172)]
theorem aFL:zP aJ0:=.cons Go.Proofs.Tryz.func149 (.cons Go.Proofs.Tryz.func150 (.cons Go.Proofs.Tryz.func151 (.cons Go.Proofs.Tryz.func152 (.cons Go.Proofs.Tryz.func153 (.cons Go.Proofs.Tryz.func154 (.cons Go.Proofs.Tryz.func156 (.cons Go.Proofs.Tryz.func157 (.cons Go.Proofs.Tryz.func158 (.cons Go.Proofs.Tryz.func160 (.cons Go.Proofs.Tryz.func162 (.cons Go.Proofs.Tryz.func163 (.cons Go.Proofs.Tryz.func164 (.cons Go.Proofs.Tryz.func165 (.cons Go.Proofs.Tryz.func166 (.cons Go.Proofs.Tryz.func167 (.cons Go.Proofs.Tryz.func168 (.cons Go.Proofs.Tryz.func169 (.cons Go.Proofs.Tryz.func171 (.cons Go.Proofs.Tryz.func172 (.nil))))))))))))))))))))
noncomputable def aJZ:List (Nat × Func):=[(174,Go.Proofs.Tryz.f174),(175,Go.Proofs.Tryz.f175),(176,Go.Proofs.Tryz.f176),(177,Go.Proofs.Tryz.f177),(178,Go.Proofs.Tryz.f178),(179,Go.Proofs.Tryz.f179),(180,Go.Proofs.Tryz.f180),(181,Go.Proofs.Tryz.f181),(184,Go.Proofs.Tryz.f184),(185,Go.Proofs.Tryz.f185),(188,Go.Proofs.Tryz.f188),(191,Go.Proofs.Tryz.f191),(192,Go.Proofs.Tryz.f192),(193,Go.Proofs.Tryz.f193),(194,Go.Proofs.Tryz.f194),(196,Go.Proofs.Tryz.f196),(197,Go.Proofs.Tryz.f197),(198,Go.Proofs.Tryz.f198),(200,Go.Proofs.Tryz.f200),(2,Go.Proofs.Tryz.f2)]
theorem aFA:zP aJZ:=.cons Go.Proofs.Tryz.func174 (.cons Go.Proofs.Tryz.func175 (.cons Go.Proofs.Tryz.func176 (.cons Go.Proofs.Tryz.func177 (.cons Go.Proofs.Tryz.func178 (.cons Go.Proofs.Tryz.func179 (.cons Go.Proofs.Tryz.func180 (.cons Go.Proofs.Tryz.func181 (.cons Go.Proofs.Tryz.func184 (.cons Go.Proofs.Tryz.func185 (.cons Go.Proofs.Tryz.func188 (.cons Go.Proofs.Tryz.func191 (.cons Go.Proofs.Tryz.func192 (.cons Go.Proofs.Tryz.func193 (.cons Go.Proofs.Tryz.func194 (.cons Go.Proofs.Tryz.func196 (.cons Go.Proofs.Tryz.func197 (.cons Go.Proofs.Tryz.func198 (.cons Go.Proofs.Tryz.func200 (.cons Go.Proofs.Tryz.func2 (.nil))))))))))))))))))))
noncomputable def aIC:List (Nat × Func):=[(86,Go.Proofs.Tryz.f86),(88,Go.Proofs.Tryz.f88),(123,Go.Proofs.Tryz.f123),(124,Go.Proofs.Tryz.f124),(142,Go.Proofs.Tryz.f142),(147,Go.Proofs.Tryz.f147),(155,Go.Proofs.Tryz.f155),(159,Go.Proofs.Tryz.f159),(161,Go.Proofs.Tryz.f161),(170,Go.Proofs.Tryz.f170),(173,Go.Proofs.Tryz.f173),(182,Go.Proofs.Tryz.f182),(183,Go.Proofs.Tryz.f183),(186,Go.Proofs.Tryz.f186),(187,Go.Proofs.Tryz.f187),(189,Go.Proofs.Tryz.f189),(190,Go.Proofs.Tryz.f190),(195,Go.Proofs.Tryz.f195),(199,Go.Proofs.Tryz.f199)]
theorem aES:zP aIC:=.cons Go.Proofs.Tryz.func86 (.cons Go.Proofs.Tryz.func88 (.cons Go.Proofs.Tryz.func123 (.cons Go.Proofs.Tryz.func124 (.cons Go.Proofs.Tryz.func142 (.cons Go.Proofs.Tryz.func147 (.cons Go.Proofs.Tryz.func155 (.cons Go.Proofs.Tryz.func159 (.cons Go.Proofs.Tryz.func161 (.cons Go.Proofs.Tryz.func170 (.cons Go.Proofs.Tryz.func173 (.cons Go.Proofs.Tryz.func182 (.cons Go.Proofs.Tryz.func183 (.cons Go.Proofs.Tryz.func186 (.cons Go.Proofs.Tryz.func187 (.cons Go.Proofs.Tryz.func189 (.cons Go.Proofs.Tryz.func190 (.cons Go.Proofs.Tryz.func195 (.cons Go.Proofs.Tryz.func199 (.nil)))))))))))))))))))
noncomputable def ftL:List (Nat × Func):=aK9++(aJp++(aK0++(aJA++(aIU++(aHR++(aK3++(aJ0++(aJZ++(aIC)))))))))
theorem aJH:zP ftL:=zP.append aG2 (zP.append aGp (zP.append aGd (zP.append aEo (zP.append aEE (zP.append aFb (zP.append aFS (zP.append aFL (zP.append aFA aES))))))))
def plL:List (Nat × List (Nat × fB)):=[
 (3,[(18,⟨[0,1,2,3,4,5,6,7,8,9,10,11,12,13,14,15,16,17,18,19,20,21,22,23,24,25,26],[],[],[]⟩)]),
 (5,[(11,⟨[0,1,2,3,4,5,6,7,8,9,10,11,12,13,14,15],[],[],[]⟩)]),
 (21,[(11,⟨[0,1,2,3,4,5,6,7,8,9,10,11,12,13,14],[],[],[]⟩)]),
 (22,[(6,⟨[0,1,2,3,4,5,6,7,8],[],[],[]⟩)]),
 (26,[(10,⟨[0,1,2,3,4,5,6,7,8,9,10,11],[],[(12,false),(13,false),(14,false)],[]⟩)]),
 (27,[(11,⟨[0,1,2,3,4,5,6,7,8,9,10,11,12,13],[],[(14,false),(15,false),(16,false)],[]⟩),(28,⟨[0,1,2,3,4,5,6,7,8,9],[],[],[]⟩),(31,⟨[0,1,2,3,4,5,6,7,8,9,10],[],[(11,false),(12,false),(13,false)],[]⟩),(36,⟨[0,1,2,3,4,5,6,7,8,9,10],[],[(11,false),(12,false)],[]⟩)]),
 (28,[(6,⟨[0,1,2,3,4,5,6,7,8,9,10],[],[],[]⟩),(11,⟨[0,1,2,3,4,5,6,7,8,9,10],[],[],[]⟩)]),
 (35,[(9,⟨[0,1,2,3,4,5,6,7],[],[],[]⟩),(23,⟨[0,1,2,3,4,5,6,7,8,9,10,11,12,13,14,15,16,17,18,19,20,21,22,23,24],[],[],[]⟩)]),
 (45,[(1,⟨[0,1,2,3,4,5,6,7,8,9,10],[],[],[]⟩)]),
 (50,[(11,⟨[0,1,2,3,4,5,6,7,8,9,10,11,12,13,14,15,16,17,18,19,20,21,22,23,24,25,26,27,28],[],[],[]⟩)]),
 (52,[(5,⟨[0,1,2,3,4,5],[],[],[]⟩)]),
 (53,[(10,⟨[0,1,2,3,4,5,6,7,8,9],[10],[(11,false)],[]⟩),(11,⟨[0,1,2,3,4,5,6,7,8,9],[10],[(11,false)],[]⟩)]),
 (56,[(7,⟨[0,1,2,3,4,5,6,7,8,9,10,11,12,13,14],[],[],[]⟩)]),
 (66,[(7,⟨[0,1,2,3,4,5],[],[],[]⟩),(19,⟨[0,1,2,3,4,5,6,7,8,9,10,11,12,13,14,15,16,17,18,19,20,21,22,23,24],[25],[(26,false)],[]⟩)]),
 (69,[(24,⟨[0,1,2,3,4,5,6,7,8,9,10,11],[],[(12,true),(13,false),(14,false),(15,false)],[]⟩),(37,⟨[0,1,2,3,4,5,6,7,8,9,10,11,12,13,14,15,16,17,18,19,20,21,22,23,24],[],[(25,true),(26,false),(27,false),(28,false)],[]⟩)]),
 (70,[(12,⟨[0,1,2,3,4,5,6,7,8],[],[],[]⟩)]),
 (71,[(7,⟨[0,1,2,3,4,5],[],[],[]⟩),(18,⟨[0,1,2,3,4,5,6,7,8,9,10,11,12,13,14,15,16,17,18,19,20,21,22,23],[],[],[]⟩),(19,⟨[0,1,2,3,4,5,6,7,8,9,10,11,12,13,14,15,16,17,18,19,20,21],[],[],[]⟩),(24,⟨[0,1,2,3,4,5,6,7,8,9,10,11,12,13,14,15,16,17],[],[],[]⟩),(25,⟨[0,1,2,3,4,5,6,7,8,9],[],[],[]⟩)]),
 (73,[(9,⟨[0,1,2,3,4,5,6],[],[],[]⟩),(10,⟨[0,1,2,3,4,5,6,7,8,9,10,11,12,13,14,15,16],[],[],[]⟩)]),
 (74,[(8,⟨[0,1,2,3,4,5,6,7,8,9,10,11,12,13,14,15,16],[],[],[]⟩),(9,⟨[0,1,2,3,4,5,6,7,8,9,10,11,12],[],[],[]⟩),(17,⟨[0,1,2,3,4,5,6,7,8],[],[(9,false)],[]⟩),(18,⟨[0,1,2,3,4,5,6,7,8],[],[(9,false)],[]⟩),(22,⟨[0,1,2,3,4,5,6,7,8,9,10,11,12,13,14,15,16,17,18,19,20,21,22,23],[],[(24,true),(25,false),(26,false),(27,false)],[]⟩),(31,⟨[0,1,2,3,4,5,6,7,8,9,10],[],[(11,false)],[]⟩),(32,⟨[0,1,2,3,4,5,6,7,8,9,10,11],[],[(12,false)],[]⟩),(34,⟨[0,1,2,3],[],[(4,true),(5,true),(6,true),(7,false)],[]⟩)]),
 (78,[(8,⟨[0,1,2,3],[4,5],[(6,true),(7,false)],[]⟩)]),
 (79,[(6,⟨[0,1,2,3,4,5,6,7,8,9,10,11,12,13,14,15,16,17],[],[],[]⟩),(15,⟨[0,1,2,3,4,5,6,7,8,9,10,11,12,13,14,15,16,17,18,19,20,21,22],[],[(23,false),(24,false),(25,false),(26,false)],[]⟩),(17,⟨[0,1,2,3,4,5,6],[],[(7,true),(8,false),(9,false)],[]⟩)]),
 (80,[(1,⟨[0,1,2,3,4,5,6,7,8,9,10,11,12,13,14,15,16,17,18,19,20],[],[(21,false)],[]⟩)]),
 (81,[(5,⟨[0,1,2,3,4,5,6,7,8,9,10,11],[12,13],[(14,true),(15,false)],[]⟩),(6,⟨[0,1,2,3,4,5,6,7,8,9,10,11,12,13,14,15,16,17,18,19,20,21,22,23,24,25,26,27,28,29,30,31,32,33,34,35,36,37,38,39,40,41],[],[(42,true),(43,true),(44,false),(45,false),(46,false)],[]⟩),(11,⟨[0,1,2,3,4,5,6,7,8,9,10,11,12,13,14,15],[],[(16,true),(17,true),(18,false),(19,false)],[0,3,5,6,9,11,13,15]⟩)]),
 (93,[(9,⟨[0,1,2,3,4,5,6,7,8,9,10,11,12,13,14,15,16,17,18,19,20],[],[],[]⟩),(34,⟨[0,1,2,3,4,5,6,7],[],[],[]⟩)]),
 (95,[(25,⟨[0,1,2,3,4,5,6,7],[],[(8,false)],[]⟩)]),
 (98,[(1,⟨[0,1,2,3,4,5,6,7,8,9,10,11,12,13,14,15,16,17,18,19,20],[],[(21,false)],[]⟩)]),
 (99,[(5,⟨[0,1,2,3,4,5],[],[],[]⟩)]),
 (103,[(1,⟨[0,1,2,3,4,5,6,7,8,9,10,11,12,13,14,15,16,17,18,19,20,21,22,23,24,25,26],[],[],[]⟩)]),
 (105,[(1,⟨[0,1,2,3,4,5,6,7,8,9,10,11,12,13,14],[],[],[]⟩)]),
 (107,[(1,⟨[0,1,2,3,4,5,6,7,8,9,10,11,12,13,14,15],[],[],[]⟩),(10,⟨[0,1,2,3,4,5,6,7,8,9,10,11,12,13,14,15],[],[],[]⟩)]),
 (108,[(1,⟨[0,1,2,3,4,5,6,7,8,9,10,11,12],[],[(13,false)],[]⟩)]),
 (109,[(1,⟨[0,1,2,3,4,5,6,7,8,9],[],[(10,false),(11,false),(12,false)],[]⟩)]),
 (113,[(1,⟨[0,1,2,3,4,5,6,7,8,9],[],[(10,false),(11,false),(12,false)],[]⟩)]),
 (117,[(6,⟨[0,1,2,3,4,5,6,7,8,9],[],[],[]⟩),(11,⟨[0,1,2,3,4,5,6,7,8,9],[],[],[]⟩)]),
 (120,[(5,⟨[0,1,2,3,4,5,6,7],[],[],[]⟩),(8,⟨[0,1,2,3,4,5,6,7,8,9,10,11,12,13,14,15],[],[],[]⟩)]),
 (121,[(1,⟨[0,1,2,3,4,5,6,7,8,9,10,11,12,13,14],[],[(15,false)],[]⟩)]),
 (122,[(1,⟨[0,1,2,3,4,5],[6,7],[(8,false),(9,false)],[]⟩),(2,⟨[0,1,2,3,4,5,6,7,8,9],[],[(10,false),(11,false),(12,false)],[]⟩)]),
 (128,[(4,⟨[0,1,2,3,4,5],[],[],[]⟩)]),
 (129,[(9,⟨[0,1,2,3,4,5,6,7,8,9,10,11,12,13,14,15,16,17,18,19,20,21,22,23,24,25,26,27,28,29,30,31,32,33],[],[],[]⟩)]),
 (130,[(1,⟨[0,1,2,3,4,5,6,7,8,9,10,11,12],[],[(13,false)],[]⟩)]),
 (131,[(12,⟨[0,1,2,3,4,5,6,7,8,9,10,11,12,13,14],[],[(15,false),(16,false),(17,false)],[]⟩),(13,⟨[0,1,2,3,4,5,6,7,8,9,10,11,12,13,14],[],[(15,false),(16,false),(17,false)],[]⟩)]),
 (136,[(8,⟨[0,1,2,3,4,5,6,7,8,9],[],[],[]⟩)]),
 (137,[(4,⟨[0,1,2,3,4,5],[],[],[]⟩)]),
 (143,[(1,⟨[0,1,2,3,4,5,6,7,8,9,10,11,12,13,14,15,16,17],[],[],[]⟩)]),
 (144,[(1,⟨[0,1,2,3,4],[],[],[]⟩)]),
 (145,[(4,⟨[0,1,2,3,4,5,6,7,8,9,10,11],[],[],[]⟩),(5,⟨[0,1,2,3,4,5,6,7,8],[],[(9,false)],[]⟩)]),
 (146,[(1,⟨[0,1,2,3,4,5,6,7,8,9,10,11,12,13,14,15,16,17,18,19,20,21,22,23,24,25,26,27,28,29],[30,31],[(32,true),(33,false)],[]⟩)]),
 (148,[(0,⟨[0,1,2,3,4,5,6,7,8,9,10,11,12,13,14],[],[],[]⟩)]),
 (152,[(5,⟨[0,1,2,3,4,5,6,7,8,9],[10],[(11,false)],[]⟩),(6,⟨[0,1,2,3,4,5,6,7,8,9],[10],[(11,false)],[]⟩)]),
 (157,[(2,⟨[0,1,2,3],[],[(4,true),(5,false)],[]⟩),(3,⟨[0,1,2,3],[],[(4,true),(5,false)],[]⟩)]),
 (158,[(17,⟨[0,1,2,3,4,5,6,7,8,9,10,11,12,13,14,15,16],[],[],[]⟩)]),
 (163,[(6,⟨[0,1,2,3,4,5,6],[],[],[]⟩),(7,⟨[0,1,2,3,4,5,6],[],[],[]⟩),(12,⟨[0,1,2,3,4,5,6,7,8,9,10,11],[],[(12,false)],[]⟩)]),
 (172,[(1,⟨[0,1,2,3,4,5,6],[7],[(8,false)],[]⟩),(9,⟨[0,1,2,3,4,5,6],[7],[(8,false)],[]⟩),(10,⟨[0,1,2,3,4,5,6,7,8,9,10,11,12,13,14],[],[],[]⟩)]),
 (174,[(4,⟨[0,1,2,3,4,5,6,7,8,9,10,11,12,13,14,15,16],[],[],[]⟩),(6,⟨[0,1,2,3,4,5,6,7,8,9,10,11,12,13,14],[],[(15,false),(16,false),(17,false)],[]⟩)]),
 (175,[(10,⟨[0,1,2,3,4,5,6,7,8,9,10,11,12,13,14,15,16],[],[(17,false),(18,false),(19,false)],[]⟩)]),
 (176,[(10,⟨[0,1,2,3,4,5,6,7,8,9,10,11,12,13,14,15,16],[],[(17,false),(18,false),(19,false)],[]⟩)]),
 (178,[(3,⟨[0,1,2,3,4,5,6,7,8,9,10,11,12],[],[(13,false),(14,false),(15,false)],[]⟩)]),
 (179,[(5,⟨[0,1,2,3,4,5,6,7,8,9,10,11,12,13,14,15,16,17],[],[],[]⟩),(11,⟨[0,1,2,3,4,5,6,7,8,9,10,11,12,13,14],[],[(15,false),(16,false),(17,false)],[]⟩),(16,⟨[0,1,2,3,4,5,6,7,8,9,10,11,12],[],[],[]⟩),(17,⟨[0,1,2,3,4,5,6,7,8,9,10,11,12,13,14],[],[(15,false),(16,false),(17,false)],[]⟩),(22,⟨[0,1,2,3,4,5,6,7,8,9,10,11,12],[],[],[]⟩),(23,⟨[0,1,2,3,4,5,6,7,8,9,10,11,12,13,14],[],[(15,false),(16,false),(17,false)],[]⟩)]),
 (180,[(1,⟨[0,1,2,3,4,5,6,7,8,9,10,11,12],[],[(13,false),(14,false),(15,false)],[]⟩),(3,⟨[0,1,2,3,4,5,6,7,8,9,10,11,12,13,14,15,16],[],[],[]⟩),(5,⟨[0,1,2,3,4,5,6,7,8,9,10,11,12,13,14,15],[],[],[]⟩),(8,⟨[0,1,2,3,4,5,6,7,8,9,10,11,12],[],[(13,false),(14,false),(15,false)],[]⟩)]),
 (181,[(1,⟨[0,1,2,3,4,5,6,7,8,9,10,11,12],[],[(13,false),(14,false),(15,false)],[]⟩),(3,⟨[0,1,2,3,4,5,6,7,8,9,10,11,12,13,14,15],[],[],[]⟩),(5,⟨[0,1,2,3,4,5,6,7,8,9,10,11,12,13,14,15,16],[],[],[]⟩),(8,⟨[0,1,2,3,4,5,6,7,8,9,10,11,12],[],[(13,false),(14,false),(15,false)],[]⟩),(10,⟨[0,1,2,3,4,5,6,7,8,9,10,11,12],[],[(13,false),(14,false),(15,false)],[]⟩),(13,⟨[0,1,2,3,4,5,6,7,8,9,10,11,12,13,14,15],[],[],[]⟩),(15,⟨[0,1,2,3,4,5,6,7,8,9,10,11,12,13,14,15,16],[],[],[]⟩),(18,⟨[0,1,2,3,4,5,6,7,8,9,10,11,12],[],[(13,false),(14,false),(15,false)],[]⟩),(21,⟨[0,1,2,3,4,5,6,7,8,9,10,11,12],[],[(13,false),(14,false),(15,false)],[]⟩)]),
 (186,[(4,⟨[0,1,2,3,4,5,6,7,8,9,10,11,12,13,14,15,16],[],[],[]⟩),(6,⟨[0,1,2,3,4,5,6,7,8,9,10,11,12,13,14],[],[(15,false),(16,false),(17,false)],[]⟩)]),
 (187,[(5,⟨[0,1,2,3,4,5,6,7,8,9,10],[],[],[]⟩),(11,⟨[0,1,2,3,4,5,6,7,8,9,10,11,12,13,14],[],[(15,false),(16,false),(17,false)],[]⟩),(17,⟨[0,1,2,3,4,5,6,7,8,9,10,11],[],[],[]⟩),(23,⟨[0,1,2,3,4,5,6,7,8,9,10,11,12,13,14],[],[(15,false),(16,false),(17,false)],[]⟩),(35,⟨[0,1,2,3,4,5,6,7,8,9,10,11,12,13],[],[],[]⟩)]),
 (188,[(3,⟨[0,1,2,3,4,5,6,7,8,9,10,11,12,13,14,15,16,17,18,19,20,21],[],[],[]⟩),(5,⟨[0,1,2,3,4,5,6,7,8,9,10,11,12,13,14,15],[],[],[]⟩),(6,⟨[0,1,2,3,4,5,6,7,8,9,10,11,12,13,14,15,16,17,18,19,20],[],[(21,false),(22,false),(23,false)],[]⟩)]),
 (190,[(1,⟨[0,1,2,3,4,5,6,7,8],[],[(9,false)],[]⟩),(2,⟨[0,1,2,3,4,5,6,7,8],[],[(9,false)],[]⟩),(3,⟨[0,1,2,3,4,5,6,7,8],[],[(9,false)],[]⟩)]),
 (193,[(5,⟨[0,1,2,3,4,5,6,7,8,9,10],[],[],[]⟩),(11,⟨[0,1,2,3,4,5,6,7,8,9,10,11,12,13,14],[],[(15,false),(16,false),(17,false)],[]⟩),(17,⟨[0,1,2,3,4,5,6,7,8,9,10,11],[],[],[]⟩),(23,⟨[0,1,2,3,4,5,6,7,8,9,10,11,12,13,14],[],[(15,false),(16,false),(17,false)],[]⟩),(35,⟨[0,1,2,3,4,5,6,7,8,9,10,11,12,13],[],[],[]⟩)]),
 (196,[(1,⟨[0,1,2,3,4,5,6,7,8,9,10],[],[],[]⟩)]),
 (199,[(3,⟨[0,1,2,3,4,5,6,7,8,9,10,11,12,13,14,15,16,17,18,19,20],[],[(21,false),(22,false),(23,false)],[]⟩)]),
 (200,[(3,⟨[0,1,2,3,4,5,6,7,8,9,10,11,12,13,14,15,16,17,18,19,20],[],[(21,false),(22,false),(23,false)],[]⟩)])
]
def plF (f r:Nat):Option fB:=match look plL f with|some l=>look l r|none=>none
def fnB (f : Nat)(fn : Func) : Bool := (!(fn.name == "runtime.NumGoroutine")) && (match fn.body with | some b => cR (plF f) b | none => true)
def N4:List (Nat × Func)→Bool|[]=>true|(f,fn)::r=>fnB f fn&&N4 r
theorem fV {l m:List (Nat × Func)}(h:N4 l=true)(hm:N4 m=true):N4 (l++m)=true:=by
 induction l with
 |nil=>exact hm
 |cons x r ih=>simp only [List.cons_append,N4,Bool.and_eq_true] at h ⊢;exact⟨h.1,ih h.2⟩
theorem aIV:N4 aK9=true:=by decide +kernel
theorem aJe:N4 aJp=true:=by decide +kernel
theorem aIr:N4 aK0=true:=by decide +kernel
theorem aJt:N4 aJA=true:=by decide +kernel
theorem aIi:N4 aIU=true:=by decide +kernel
theorem aIb:N4 aHR=true:=by decide +kernel
theorem aJX:N4 aK3=true:=by decide +kernel
theorem aHU:N4 aJ0=true:=by decide +kernel
theorem aKh:N4 aJZ=true:=by decide +kernel
theorem aHV:N4 aIC=true:=by decide +kernel
theorem aIM:N4 ftL=true:=fV aIV (fV aJe (fV aIr (fV aJt (fV aIi (fV aIb (fV aJX (fV aHU (fV aKh aHV))))))))
end Go.Aw
end
