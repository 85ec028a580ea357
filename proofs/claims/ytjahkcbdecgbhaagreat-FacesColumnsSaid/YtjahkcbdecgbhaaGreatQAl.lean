/-
  Parts of a proof. No condition.
-/
import Derived.Test.YtjahkcbdecgbhaaGreatQAk
set_option linter.unusedSimpArgs false
set_option linter.unusedVariables false
noncomputable section
namespace Go.Aw
def rP (l:List (Nat × Func)):Prop:=∀ p∈l,Go.Proofs.Tryz.prog.funcs[p.1]? = some p.2
theorem rP.nil:rP []:=fun _ h=>by cases h
theorem rP.cons {n:Nat}{f:Func}{l:List (Nat × Func)}(h:Go.Proofs.Tryz.prog.funcs[n]? = some f)(hl:rP l):rP ((n,f)::l):=List.forall_mem_cons.2 ⟨h,hl⟩
theorem rP.append {l m:List (Nat × Func)}(h:rP l)(hm:rP m):rP (l++m):=fun p hp=>(List.mem_append.1 hp).elim (h p) (hm p)
noncomputable def aHp:List (Nat × Func):=[(3,Go.Proofs.Tryz.f3),(4,Go.Proofs.Tryz.f4),(5,Go.Proofs.Tryz.f5),(6,Go.Proofs.Tryz.f6),(7,Go.Proofs.Tryz.f7),(8,Go.Proofs.Tryz.f8),(9,Go.Proofs.Tryz.f9),(10,Go.Proofs.Tryz.f10),(11,Go.Proofs.Tryz.f11),(12,Go.Proofs.Tryz.f12),(13,Go.Proofs.Tryz.f13),(14,Go.Proofs.Tryz.f14),(15,Go.Proofs.Tryz.f15),(16,Go.Proofs.Tryz.f16),(17,Go.Proofs.Tryz.f17),(18,Go.Proofs.Tryz.f18),(19,Go.Proofs.Tryz.f19),(20,Go.Proofs.Tryz.f20),(21,Go.Proofs.Tryz.f21),(22,Go.Proofs.Tryz.f22)]
theorem aCp:rP aHp:=.cons Go.Proofs.Tryz.func3 (.cons Go.Proofs.Tryz.func4 (.cons Go.Proofs.Tryz.func5 (.cons Go.Proofs.Tryz.func6 (.cons Go.Proofs.Tryz.func7 (.cons Go.Proofs.Tryz.func8 (.cons Go.Proofs.Tryz.func9 (.cons Go.Proofs.Tryz.func10 (.cons Go.Proofs.Tryz.func11 (.cons Go.Proofs.Tryz.func12 (.cons Go.Proofs.Tryz.func13 (.cons Go.Proofs.Tryz.func14 (.cons Go.Proofs.Tryz.func15 (.cons Go.Proofs.Tryz.func16 (.cons Go.Proofs.Tryz.func17 (.cons Go.Proofs.Tryz.func18 (.cons Go.Proofs.Tryz.func19 (.cons Go.Proofs.Tryz.func20 (.cons Go.Proofs.Tryz.func21 (.cons Go.Proofs.Tryz.func22 (.nil))))))))))))))))))))
noncomputable def aG4:List (Nat × Func):=[(23,Go.Proofs.Tryz.f23),(24,Go.Proofs.Tryz.f24),(25,Go.Proofs.Tryz.f25),(26,Go.Proofs.Tryz.f26),(27,Go.Proofs.Tryz.f27),(28,Go.Proofs.Tryz.f28),(29,Go.Proofs.Tryz.f29),(30,Go.Proofs.Tryz.f30),(31,Go.Proofs.Tryz.f31),(32,Go.Proofs.Tryz.f32),(33,Go.Proofs.Tryz.f33),(34,Go.Proofs.Tryz.f34),(35,Go.Proofs.Tryz.f35),(36,Go.Proofs.Tryz.f36),(37,Go.Proofs.Tryz.f37),(38,Go.Proofs.Tryz.f38),(39,Go.Proofs.Tryz.f39),(40,Go.Proofs.Tryz.f40),(41,Go.Proofs.Tryz.f41),(42,Go.Proofs.Tryz.f42)]
theorem aD2:rP aG4:=.cons Go.Proofs.Tryz.func23 (.cons Go.Proofs.Tryz.func24 (.cons Go.Proofs.Tryz.func25 (.cons Go.Proofs.Tryz.func26 (.cons Go.Proofs.Tryz.func27 (.cons Go.Proofs.Tryz.func28 (.cons Go.Proofs.Tryz.func29 (.cons Go.Proofs.Tryz.func30 (.cons Go.Proofs.Tryz.func31 (.cons Go.Proofs.Tryz.func32 (.cons Go.Proofs.Tryz.func33 (.cons Go.Proofs.Tryz.func34 (.cons Go.Proofs.Tryz.func35 (.cons Go.Proofs.Tryz.func36 (.cons Go.Proofs.Tryz.func37 (.cons Go.Proofs.Tryz.func38 (.cons Go.Proofs.Tryz.func39 (.cons Go.Proofs.Tryz.func40 (.cons Go.Proofs.Tryz.func41 (.cons Go.Proofs.Tryz.func42 (.nil))))))))))))))))))))
noncomputable def aHw:List (Nat × Func):=[(43,Go.Proofs.Tryz.f43),(44,Go.Proofs.Tryz.f44),(45,Go.Proofs.Tryz.f45),(46,Go.Proofs.Tryz.f46),(47,Go.Proofs.Tryz.f47),(48,Go.Proofs.Tryz.f48),(49,Go.Proofs.Tryz.f49),(50,Go.Proofs.Tryz.f50),(51,Go.Proofs.Tryz.f51),(52,Go.Proofs.Tryz.f52),(53,Go.Proofs.Tryz.f53),(54,Go.Proofs.Tryz.f54),(55,Go.Proofs.Tryz.f55),(56,Go.Proofs.Tryz.f56),(57,Go.Proofs.Tryz.f57),(58,Go.Proofs.Tryz.f58),(59,Go.Proofs.Tryz.f59),(60,Go.Proofs.Tryz.f60),(61,Go.Proofs.Tryz.f61),(62,Go.Proofs.Tryz.f62)]
theorem aDO:rP aHw:=.cons Go.Proofs.Tryz.func43 (.cons Go.Proofs.Tryz.func44 (.cons Go.Proofs.Tryz.func45 (.cons Go.Proofs.Tryz.func46 (.cons Go.Proofs.Tryz.func47 (.cons Go.Proofs.Tryz.func48 (.cons Go.Proofs.Tryz.func49 (.cons Go.Proofs.Tryz.func50 (.cons Go.Proofs.Tryz.func51 (.cons Go.Proofs.Tryz.func52 (.cons Go.Proofs.Tryz.func53 (.cons Go.Proofs.Tryz.func54 (.cons Go.Proofs.Tryz.func55 (.cons Go.Proofs.Tryz.func56 (.cons Go.Proofs.Tryz.func57 (.cons Go.Proofs.Tryz.func58 (.cons Go.Proofs.Tryz.func59 (.cons Go.Proofs.Tryz.func60 (.cons Go.Proofs.Tryz.func61 (.cons Go.Proofs.Tryz.func62 (.nil))))))))))))))))))))
noncomputable def aGO:List (Nat × Func):=[(63,Go.Proofs.Tryz.f63),(64,Go.Proofs.Tryz.f64),(65,Go.Proofs.Tryz.f65),(66,Go.Proofs.Tryz.f66),(67,Go.Proofs.Tryz.f67),(68,Go.Proofs.Tryz.f68),(69,Go.Proofs.Tryz.f69),(70,Go.Proofs.Tryz.f70),(71,Go.Proofs.Tryz.f71),(72,Go.Proofs.Tryz.f72),(73,Go.Proofs.Tryz.f73),(74,Go.Proofs.Tryz.f74),(75,Go.Proofs.Tryz.f75),(76,Go.Proofs.Tryz.f76),(77,Go.Proofs.Tryz.f77),(78,Go.Proofs.Tryz.f78),(79,Go.Proofs.Tryz.f79),(80,Go.Proofs.Tryz.f80),(81,Go.Proofs.Tryz.f81),(82,Go.Proofs.Tryz.f82)]
theorem aDF:rP aGO:=.cons Go.Proofs.Tryz.func63 (.cons Go.Proofs.Tryz.func64 (.cons Go.Proofs.Tryz.func65 (.cons Go.Proofs.Tryz.func66 (.cons Go.Proofs.Tryz.func67 (.cons Go.Proofs.Tryz.func68 (.cons Go.Proofs.Tryz.func69 (.cons Go.Proofs.Tryz.func70 (.cons Go.Proofs.Tryz.func71 (.cons Go.Proofs.Tryz.func72 (.cons Go.Proofs.Tryz.func73 (.cons Go.Proofs.Tryz.func74 (.cons Go.Proofs.Tryz.func75 (.cons Go.Proofs.Tryz.func76 (.cons Go.Proofs.Tryz.func77 (.cons Go.Proofs.Tryz.func78 (.cons Go.Proofs.Tryz.func79 (.cons Go.Proofs.Tryz.func80 (.cons Go.Proofs.Tryz.func81 (.cons Go.Proofs.Tryz.func82 (.nil))))))))))))))))))))
noncomputable def aHs:List (Nat × Func):=[(83,Go.Proofs.Tryz.f83),(84,Go.Proofs.Tryz.f84),(85,Go.Proofs.Tryz.f85),(86,Go.Proofs.Tryz.f86),(87,Go.Proofs.Tryz.f87),(88,Go.Proofs.Tryz.f88),(89,Go.Proofs.Tryz.f89),(90,Go.Proofs.Tryz.f90),(91,Go.Proofs.Tryz.f91),(92,Go.Proofs.Tryz.f92),(93,Go.Proofs.Tryz.f93),(94,Go.Proofs.Tryz.f94),(95,Go.Proofs.Tryz.f95),(96,Go.Proofs.Tryz.f96),(97,Go.Proofs.Tryz.f97),(98,Go.Proofs.Tryz.f98),(99,Go.Proofs.Tryz.f99),(100,Go.Proofs.Tryz.f100),(101,Go.Proofs.Tryz.f101),(102,Go.Proofs.Tryz.f102)]
theorem aDl:rP aHs:=.cons Go.Proofs.Tryz.func83 (.cons Go.Proofs.Tryz.func84 (.cons Go.Proofs.Tryz.func85 (.cons Go.Proofs.Tryz.func86 (.cons Go.Proofs.Tryz.func87 (.cons Go.Proofs.Tryz.func88 (.cons Go.Proofs.Tryz.func89 (.cons Go.Proofs.Tryz.func90 (.cons Go.Proofs.Tryz.func91 (.cons Go.Proofs.Tryz.func92 (.cons Go.Proofs.Tryz.func93 (.cons Go.Proofs.Tryz.func94 (.cons Go.Proofs.Tryz.func95 (.cons Go.Proofs.Tryz.func96 (.cons Go.Proofs.Tryz.func97 (.cons Go.Proofs.Tryz.func98 (.cons Go.Proofs.Tryz.func99 (.cons Go.Proofs.Tryz.func100 (.cons Go.Proofs.Tryz.func101 (.cons Go.Proofs.Tryz.func102 (.nil))))))))))))))))))))
noncomputable def aHM:List (Nat × Func):=[(103,Go.Proofs.Tryz.f103),(104,Go.Proofs.Tryz.f104),(105,Go.Proofs.Tryz.f105),(106,Go.Proofs.Tryz.f106),(107,Go.Proofs.Tryz.f107),(108,Go.Proofs.Tryz.f108),(109,Go.Proofs.Tryz.f109),(110,Go.Proofs.Tryz.f110),(111,Go.Proofs.Tryz.f111),(112,Go.Proofs.Tryz.f112),(113,Go.Proofs.Tryz.f113),(114,Go.Proofs.Tryz.f114),(115,Go.Proofs.Tryz.f115),(116,Go.Proofs.Tryz.f116),(117,Go.Proofs.Tryz.f117),(118,Go.Proofs.Tryz.f118),(119,Go.Proofs.Tryz.f119),(120,Go.Proofs.Tryz.f120),(121,Go.Proofs.Tryz.f121),(122,Go.Proofs.Tryz.f122)]
theorem aDf:rP aHM:=.cons Go.Proofs.Tryz.func103 (.cons Go.Proofs.Tryz.func104 (.cons Go.Proofs.Tryz.func105 (.cons Go.Proofs.Tryz.func106 (.cons Go.Proofs.Tryz.func107 (.cons Go.Proofs.Tryz.func108 (.cons Go.Proofs.Tryz.func109 (.cons Go.Proofs.Tryz.func110 (.cons Go.Proofs.Tryz.func111 (.cons Go.Proofs.Tryz.func112 (.cons Go.Proofs.Tryz.func113 (.cons Go.Proofs.Tryz.func114 (.cons Go.Proofs.Tryz.func115 (.cons Go.Proofs.Tryz.func116 (.cons Go.Proofs.Tryz.func117 (.cons Go.Proofs.Tryz.func118 (.cons Go.Proofs.Tryz.func119 (.cons Go.Proofs.Tryz.func120 (.cons Go.Proofs.Tryz.func121 (.cons Go.Proofs.Tryz.func122 (.nil))))))))))))))))))))
noncomputable def aH3:List (Nat × Func):=[(123,Go.Proofs.Tryz.f123),(124,Go.Proofs.Tryz.f124),(125,Go.Proofs.Tryz.f125),(126,Go.Proofs.Tryz.f126),(127,Go.Proofs.Tryz.f127),(128,Go.Proofs.Tryz.f128),(129,Go.Proofs.Tryz.f129),(130,Go.Proofs.Tryz.f130),(131,Go.Proofs.Tryz.f131),(132,Go.Proofs.Tryz.f132),(133,Go.Proofs.Tryz.f133),(135,Go.Proofs.Tryz.f135),(136,Go.Proofs.Tryz.f136),(137,Go.Proofs.Tryz.f137),(138,Go.Proofs.Tryz.f138),(139,Go.Proofs.Tryz.f139),(140,Go.Proofs.Tryz.f140),(141,Go.Proofs.Tryz.f141),(142,Go.Proofs.Tryz.f142),(143,Go.Proofs.Tryz.f143)]
theorem aEm:rP aH3:=.cons Go.Proofs.Tryz.func123 (.cons Go.Proofs.Tryz.func124 (.cons Go.Proofs.Tryz.func125 (.cons Go.Proofs.Tryz.func126 (.cons Go.Proofs.Tryz.func127 (.cons Go.Proofs.Tryz.func128 (.cons Go.Proofs.Tryz.func129 (.cons Go.Proofs.Tryz.func130 (.cons Go.Proofs.Tryz.func131 (.cons Go.Proofs.Tryz.func132 (.cons Go.Proofs.Tryz.func133 (.cons Go.Proofs.Tryz.func135 (.cons Go.Proofs.Tryz.func136 (.cons Go.Proofs.Tryz.func137 (.cons Go.Proofs.Tryz.func138 (.cons Go.Proofs.Tryz.func139 (.cons Go.Proofs.Tryz.func140 (.cons Go.Proofs.Tryz.func141 (.cons Go.Proofs.Tryz.func142 (.cons Go.Proofs.Tryz.func143 (.nil))))))))))))))))))))
noncomputable def aHA:List (Nat × Func):=[(144,Go.Proofs.Tryz.f144),(145,Go.Proofs.Tryz.f145),(146,Go.Proofs.Tryz.f146),(147,Go.Proofs.Tryz.f147),(148,Go.Proofs.Tryz.f148),(149,Go.Proofs.Tryz.f149),(150,Go.Proofs.Tryz.f150),(151,Go.Proofs.Tryz.f151),(152,Go.Proofs.Tryz.f152),(153,Go.Proofs.Tryz.f153),(154,Go.Proofs.Tryz.f154),(155,Go.Proofs.Tryz.f155),(156,Go.Proofs.Tryz.f156),(157,Go.Proofs.Tryz.f157),(158,Go.Proofs.Tryz.f158),(159,Go.Proofs.Tryz.f159),(160,Go.Proofs.Tryz.f160),(161,Go.Proofs.Tryz.f161),(162,Go.Proofs.Tryz.f162),(163,Go.Proofs.Tryz.f163)]
theorem aD3:rP aHA:=.cons Go.Proofs.Tryz.func144 (.cons Go.Proofs.Tryz.func145 (.cons Go.Proofs.Tryz.func146 (.cons Go.Proofs.Tryz.func147 (.cons Go.Proofs.Tryz.func148 (.cons Go.Proofs.Tryz.func149 (.cons Go.Proofs.Tryz.func150 (.cons Go.Proofs.Tryz.func151 (.cons Go.Proofs.Tryz.func152 (.cons Go.Proofs.Tryz.func153 (.cons Go.Proofs.Tryz.func154 (.cons Go.Proofs.Tryz.func155 (.cons Go.Proofs.Tryz.func156 (.cons Go.Proofs.Tryz.func157 (.cons Go.Proofs.Tryz.func158 (.cons Go.Proofs.Tryz.func159 (.cons Go.Proofs.Tryz.func160 (.cons Go.Proofs.Tryz.func161 (.cons Go.Proofs.Tryz.func162 (.cons Go.Proofs.Tryz.func163 (.nil))))))))))))))))))))
noncomputable def aFV:List (Nat × Func):=[(164,Go.Proofs.Tryz.f164),(166,Go.Proofs.Tryz.f166),(168,Go.Proofs.Tryz.f168),(169,Go.Proofs.Tryz.f169),(170,Go.Proofs.Tryz.f170),(171,Go.Proofs.Tryz.f171),(172,Go.Proofs.Tryz.f172),(173,Go.Proofs.Tryz.f173),(174,Go.Proofs.Tryz.f174),(175,Go.Proofs.Tryz.f175),(176,Go.Proofs.Tryz.f176),(177,Go.Proofs.Tryz.f177),(180,Go.Proofs.Tryz.f180),(181,Go.Proofs.Tryz.f181),(182,Go.Proofs.Tryz.f182),(183,Go.Proofs.Tryz.f183),(184,Go.Proofs.Tryz.f184),(185,Go.Proofs.Tryz.f185),(186,Go.Proofs.Tryz.f186),(187,Go.Proofs.Tryz.f187)]
theorem aCX:rP aFV:=.cons Go.Proofs.Tryz.func164 (.cons Go.Proofs.Tryz.func166 (.cons Go.Proofs.Tryz.func168 (.cons Go.Proofs.Tryz.func169 (.cons Go.Proofs.Tryz.func170 (.cons Go.Proofs.Tryz.func171 (.cons Go.Proofs.Tryz.func172 (.cons Go.Proofs.Tryz.func173 (.cons Go.Proofs.Tryz.func174 (.cons Go.Proofs.Tryz.func175 (.cons Go.Proofs.Tryz.func176 (.cons Go.Proofs.Tryz.func177 (.cons Go.Proofs.Tryz.func180 (.cons Go.Proofs.Tryz.func181 (.cons Go.Proofs.Tryz.func182 (.cons Go.Proofs.Tryz.func183 (.cons Go.Proofs.Tryz.func184 (.cons Go.Proofs.Tryz.func185 (.cons Go.Proofs.Tryz.func186 (.cons Go.Proofs.Tryz.func187 (.nil))))))))))))))))))))
noncomputable def aGy:List (Nat × Func):=[(188,Go.Proofs.Tryz.f188),(189,Go.Proofs.Tryz.f189),(190,Go.Proofs.Tryz.f190),(191,Go.Proofs.Tryz.f191),(192,Go.Proofs.Tryz.f192),(193,Go.Proofs.Tryz.f193),(194,Go.Proofs.Tryz.f194),(195,Go.Proofs.Tryz.f195),(196,Go.Proofs.Tryz.f196),(197,Go.Proofs.Tryz.f197),(198,Go.Proofs.Tryz.f198),(199,Go.Proofs.Tryz.f199),(200,Go.Proofs.Tryz.f200),(201,Go.Proofs.Tryz.f201),(205,Go.Proofs.Tryz.f205),(206,Go.Proofs.Tryz.f206),(207,Go.Proofs.Tryz.f207),(209,Go.Proofs.Tryz.f209),(210,Go.Proofs.Tryz.f210),(211,Go.Proofs.Tryz.f211)]
theorem aCv:rP aGy:=.cons Go.Proofs.Tryz.func188 (.cons Go.Proofs.Tryz.func189 (.cons Go.Proofs.Tryz.func190 (.cons Go.Proofs.Tryz.func191 (.cons Go.Proofs.Tryz.func192 (.cons Go.Proofs.Tryz.func193 (.cons Go.Proofs.Tryz.func194 (.cons Go.Proofs.Tryz.func195 (.cons Go.Proofs.Tryz.func196 (.cons Go.Proofs.Tryz.func197 (.cons Go.Proofs.Tryz.func198 (.cons Go.Proofs.Tryz.func199 (.cons Go.Proofs.Tryz.func200 (.cons Go.Proofs.Tryz.func201 (.cons Go.Proofs.Tryz.func205 (.cons Go.Proofs.Tryz.func206 (.cons Go.Proofs.Tryz.func207 (.cons Go.Proofs.Tryz.func209 (.cons Go.Proofs.Tryz.func210 (.cons Go.Proofs.Tryz.func211 (.nil))))))))))))))))))))
noncomputable def aBm:List (Nat × Func):=[(212,Go.Proofs.Tryz.f212),(213,Go.Proofs.Tryz.f213),(215,Go.Proofs.Tryz.f215),(216,Go.Proofs.Tryz.f216),(217,Go.Proofs.Tryz.f217),(219,Go.Proofs.Tryz.f219),(220,Go.Proofs.Tryz.f220),(222,Go.Proofs.Tryz.f222),(223,Go.Proofs.Tryz.f223),(224,Go.Proofs.Tryz.f224),(225,Go.Proofs.Tryz.f225),(226,Go.Proofs.Tryz.f226),(227,Go.Proofs.Tryz.f227),(228,Go.Proofs.Tryz.f228),(240,Go.Proofs.Tryz.f240),(242,Go.Proofs.Tryz.f242),(243,Go.Proofs.Tryz.f243),(245,Go.Proofs.Tryz.f245),(246,Go.Proofs.Tryz.f246),(247,Go.Proofs.Tryz.f247)]
theorem aB5:rP aBm:=.cons Go.Proofs.Tryz.func212 (.cons Go.Proofs.Tryz.func213 (.cons Go.Proofs.Tryz.func215 (.cons Go.Proofs.Tryz.func216 (.cons Go.Proofs.Tryz.func217 (.cons Go.Proofs.Tryz.func219 (.cons Go.Proofs.Tryz.func220 (.cons Go.Proofs.Tryz.func222 (.cons Go.Proofs.Tryz.func223 (.cons Go.Proofs.Tryz.func224 (.cons Go.Proofs.Tryz.func225 (.cons Go.Proofs.Tryz.func226 (.cons Go.Proofs.Tryz.func227 (.cons Go.Proofs.Tryz.func228 (.cons Go.Proofs.Tryz.func240 (.cons Go.Proofs.Tryz.func242 (.cons Go.Proofs.Tryz.func243 (.cons Go.Proofs.Tryz.func245 (.cons Go.Proofs.Tryz.func246 (.cons Go.Proofs.Tryz.func247 (.nil))))))))))))))))))))
noncomputable def aAY:List (Nat × Func):=[(248,Go.Proofs.Tryz.f248),(249,Go.Proofs.Tryz.f249),(250,Go.Proofs.Tryz.f250),(251,Go.Proofs.Tryz.f251),(252,Go.Proofs.Tryz.f252),(253,Go.Proofs.Tryz.f253),(254,Go.Proofs.Tryz.f254),(255,Go.Proofs.Tryz.f255),(256,Go.Proofs.Tryz.f256),(257,Go.Proofs.Tryz.f257),(258,Go.Proofs.Tryz.f258),(264,Go.Proofs.Tryz.f264),(267,Go.Proofs.Tryz.f267),(268,Go.Proofs.Tryz.f268),(269,Go.Proofs.Tryz.f269),(270,Go.Proofs.Tryz.f270),(271,Go.Proofs.Tryz.f271),(274,Go.Proofs.Tryz.f274),(275,Go.Proofs.Tryz.f275),(277,Go.Proofs.Tryz.f277)]
theorem YT:rP aAY:=.cons Go.Proofs.Tryz.func248 (.cons Go.Proofs.Tryz.func249 (.cons Go.Proofs.Tryz.func250 (.cons Go.Proofs.Tryz.func251 (.cons Go.Proofs.Tryz.func252 (.cons Go.Proofs.Tryz.func253 (.cons Go.Proofs.Tryz.func254 (.cons Go.Proofs.Tryz.func255 (.cons Go.Proofs.Tryz.func256 (.cons Go.Proofs.Tryz.func257 (.cons Go.Proofs.Tryz.func258 (.cons Go.Proofs.Tryz.func264 (.cons Go.Proofs.Tryz.func267 (.cons Go.Proofs.Tryz.func268 (.cons Go.Proofs.Tryz.func269 (.cons Go.Proofs.Tryz.func270 (.cons Go.Proofs.Tryz.func271 (.cons Go.Proofs.Tryz.func274 (.cons Go.Proofs.Tryz.func275 (.cons Go.Proofs.Tryz.func277 (.nil))))))))))))))))))))
noncomputable def aBP:List (Nat × Func):=[(2,Go.Proofs.Tryz.f2),(134,Go.Proofs.Tryz.f134),(165,Go.Proofs.Tryz.f165),(167,Go.Proofs.Tryz.f167),(178,Go.Proofs.Tryz.f178),(179,Go.Proofs.Tryz.f179),(202,Go.Proofs.Tryz.f202),(203,Go.Proofs.Tryz.f203),(204,Go.Proofs.Tryz.f204),(208,Go.Proofs.Tryz.f208),(214,Go.Proofs.Tryz.f214),(218,Go.Proofs.Tryz.f218),(221,Go.Proofs.Tryz.f221),(229,Go.Proofs.Tryz.f229),(230,Go.Proofs.Tryz.f230),(231,Go.Proofs.Tryz.f231),(232,Go.Proofs.Tryz.f232),(233,Go.Proofs.Tryz.f233),(234,Go.Proofs.Tryz.f234),(235,Go.Proofs.Tryz.f235)]
theorem Z3:rP aBP:=.cons Go.Proofs.Tryz.func2 (.cons Go.Proofs.Tryz.func134 (.cons Go.Proofs.Tryz.func165 (.cons Go.Proofs.Tryz.func167 (.cons Go.Proofs.Tryz.func178 (.cons Go.Proofs.Tryz.func179 (.cons Go.Proofs.Tryz.func202 (.cons Go.Proofs.Tryz.func203 (.cons Go.Proofs.Tryz.func204 (.cons Go.Proofs.Tryz.func208 (.cons Go.Proofs.Tryz.func214 (.cons Go.Proofs.Tryz.func218 (.cons Go.Proofs.Tryz.func221 (.cons Go.Proofs.Tryz.func229 (.cons Go.Proofs.Tryz.func230 (.cons Go.Proofs.Tryz.func231 (.cons Go.Proofs.Tryz.func232 (.cons Go.Proofs.Tryz.func233 (.cons Go.Proofs.Tryz.func234 (.cons Go.Proofs.Tryz.func235 (.nil))))))))))))))))))))
noncomputable def aBF:List (Nat × Func):=[(236,Go.Proofs.Tryz.f236),(237,Go.Proofs.Tryz.f237),(238,Go.Proofs.Tryz.f238),(239,Go.Proofs.Tryz.f239),(241,Go.Proofs.Tryz.f241),(244,Go.Proofs.Tryz.f244),(259,Go.Proofs.Tryz.f259),(260,Go.Proofs.Tryz.f260),(261,Go.Proofs.Tryz.f261),(262,Go.Proofs.Tryz.f262),(263,Go.Proofs.Tryz.f263),(265,Go.Proofs.Tryz.f265),(266,Go.Proofs.Tryz.f266),(272,Go.Proofs.Tryz.f272),(273,Go.Proofs.Tryz.f273),(276,Go.Proofs.Tryz.f276)]
theorem aBr:rP aBF:=.cons Go.Proofs.Tryz.func236 (.cons Go.Proofs.Tryz.func237 (.cons Go.Proofs.Tryz.func238 (.cons Go.Proofs.Tryz.func239 (.cons Go.Proofs.Tryz.func241 (.cons Go.Proofs.Tryz.func244 (.cons Go.Proofs.Tryz.func259 (.cons Go.Proofs.Tryz.func260 (.cons Go.Proofs.Tryz.func261 (.cons Go.Proofs.Tryz.func262 (.cons Go.Proofs.Tryz.func263 (.cons Go.Proofs.Tryz.func265 (.cons Go.Proofs.Tryz.func266 (.cons Go.Proofs.Tryz.func272 (.cons Go.Proofs.Tryz.func273 (.cons Go.Proofs.Tryz.func276 (.nil))))))))))))))))
noncomputable def ftL:List (Nat × Func):=aHp++(aG4++(aHw++(aGO++(aHs++(aHM++(aH3++(aHA++(aFV++(aGy++(aBm++(aAY++(aBP++(aBF)))))))))))))
theorem aHj:rP ftL:=rP.append aCp (rP.append aD2 (rP.append aDO (rP.append aDF (rP.append aDl (rP.append aDf (rP.append aEm (rP.append aD3 (rP.append aCX (rP.append aCv (rP.append aB5 (rP.append YT (rP.append Z3 aBr))))))))))))
def plL:List (Nat × List (Nat × fE)):=[
 (3,[(3,⟨[0,1,2,3,4,5,6,7,8],[],[],[]⟩)]),
 (14,[(6,⟨[0,1,2,3,4,5,6,7,8,9],[],[],[]⟩),(16,⟨[0,1,2,3,4,5,6,7,8,9,10],[],[],[]⟩)]),
 (20,[(17,⟨[0,1,2,3,4,5,6,7,8,9,10,11,12,13],[],[],[]⟩),(20,⟨[0,1,2,3,4,5,6,7,8,9],[],[(10,false),(11,false),(12,false)],[]⟩),(21,⟨[1,2,3,5,6,7,8],[],[(0,true),(4,true),(9,false),(10,false)],[]⟩)]),
 (21,[(6,⟨[0,1,2,3,4,5,6,7,8],[],[],[]⟩)]),
 (23,[(4,⟨[0,1,2,3,4,5,6],[],[],[]⟩)]),
 (25,[(9,⟨[0,1,2,3,4,5,6],[],[(7,false),(8,false),(9,false)],[]⟩)]),
 (27,[(4,⟨[0,1,2,3,4,5,6],[],[],[]⟩)]),
 (31,[(8,⟨[0,1,2,3,4,5,6,7,8,9,10,11,12],[],[],[]⟩)]),
 (33,[(10,⟨[0,1,2,3,4,5,6,7,8,9,10,11,12,13,14],[],[],[]⟩),(12,⟨[0,1,2,3,4,5],[6],[(7,false)],[]⟩)]),
 (35,[(16,⟨[0,1,2,3,4,5,6,7,8,9,10,11,12,13,14,15],[],[(16,false),(17,false),(18,false)],[]⟩),(38,⟨[0,1,2,3,4,5],[],[],[]⟩),(42,⟨[0,1,2,3,4,5,6,7,8,9,10,11,12,13],[],[],[]⟩),(44,⟨[0,1,2,3,4,5,6,7,8,9,10,11,12,13],[],[],[]⟩)]),
 (36,[(6,⟨[0,1,2,3,4,5,6,7,8,9,10],[],[],[]⟩),(11,⟨[0,1,2,3,4,5,6,7,8,9,10],[],[],[]⟩)]),
 (40,[(20,⟨[0,1,2,3,4,5,6,7],[],[],[]⟩),(21,⟨[0,1,2,3,4,5,6,7,8,9],[],[(10,false)],[]⟩),(22,⟨[0,1,2,3,4,5,6,7,8,9],[],[(10,false)],[]⟩),(23,⟨[0,1,2,3,4,5,6,7,8,9],[],[(10,false)],[]⟩),(24,⟨[0,1,2,3,4,5,6,7,8,9],[],[(10,false)],[]⟩)]),
 (41,[(10,⟨[0,1,2,3,4,5,6,7,8,9,10,11],[],[(12,false),(13,false),(14,false)],[]⟩)]),
 (44,[(33,⟨[0,1,2,3,4,5,6,7,8,9,10,11,12,13,14,15,16,17,18,19,20,21,22,23,24,25,26,27,28,29,30,31],[],[],[]⟩)]),
 (49,[(2,⟨[0,1,2,3,4,5,6],[],[(7,false)],[]⟩)]),
 (50,[(11,⟨[0,1,2,3,4,5,6],[],[],[]⟩),(15,⟨[0,1,2,3,4,5,6,7,8,9,10,11],[],[],[]⟩)]),
 (51,[(6,⟨[0,1,2,3,4,5,6,7,8,9,10,11],[],[],[]⟩)]),
 (53,[(21,⟨[0,1,2,3,4,5,6,7,8,9,10,11,12,13,14],[],[],[]⟩)]),
 (57,[(23,⟨[0,1,2,3,4,5,6,7,8,9,10],[],[(11,false),(12,false),(13,false)],[]⟩)]),
 (58,[(6,⟨[0,1,2,3,4,5,6,7,8,9],[],[],[]⟩)]),
 (59,[(6,⟨[0,1,2,3,4,5,6,7,8,9,10],[],[],[]⟩),(11,⟨[0,1,2,3,4,5,6,7,8,9,10,11,12,13,14],[],[],[]⟩)]),
 (69,[(9,⟨[0,1,2,3,4,5,6,7],[],[],[]⟩),(23,⟨[0,1,2,3,4,5,6,7,8,9,10,11,12,13,14,15,16,17,18,19,20,21,22,23,24],[],[],[]⟩)]),
 (70,[(11,⟨[0,1,2,3,4,5,6,7,8,9,10,11,12,13,14,15,16,17,18,19,20,21,22,23,24,25,26,27,28],[],[],[]⟩)]),
 (74,[(1,⟨[0,1,2,3,4,5,6,7,8,9,10,11,12,13,14,15,16,17,18,19,20],[],[(21,false)],[]⟩)]),
 (77,[(1,⟨[0,1,2,3,4,5,6,7,8,9,10],[],[],[]⟩)]),
 (79,[(1,⟨[0,1,2,3,4,5,6],[7],[(8,false)],[]⟩),(9,⟨[0,1,2,3,4,5,6],[7],[(8,false)],[]⟩),(10,⟨[0,1,2,3,4,5,6,7,8,9,10,11,12,13,14],[],[],[]⟩)]),
 (86,[(5,⟨[0,1,2,3,4,5],[],[],[]⟩)]),
 (90,[(5,⟨[0,1,2,3,4,5,6,7,8,9],[10],[(11,false)],[]⟩),(6,⟨[0,1,2,3,4,5,6,7,8,9],[10],[(11,false)],[]⟩)]),
 (98,[(1,⟨[0,1,2,3,4,5,6,7,8,9,10,11,12,13,14,15,16,17,18,19,20],[],[(21,false)],[]⟩)]),
 (99,[(7,⟨[0,1,2,3,4,5,6,7,8,9,10,11,12,13,14,15,16,17,18,19,20,21,22,23,24,25],[],[],[]⟩)]),
 (100,[(8,⟨[0,1,2,3,4,5,6,7,8,9,10,11,12,13,14,15,16,17,18,19,20,21,22,23,24,25,26,27,28,29,30,31,32,33,34,35,36,37,38,39,40,41,42,43,44,45,46,47,48,49,50,51,52],[],[(53,false)],[]⟩)]),
 (101,[(1,⟨[0,1,2,3,4],[],[(5,true),(6,false),(7,false)],[]⟩)]),
 (103,[(14,⟨[0,1,2,3,4,5,6,7],[],[(8,false),(9,false),(10,false)],[]⟩),(15,⟨[0,1,2,3,4,5,6,7,8,9,10,11],[],[],[]⟩),(32,⟨[0,1,2,3,4,5,6,7,8],[9],[(10,false)],[]⟩),(33,⟨[0,1,2,3,4,5,6,7,8,9,10,11,12,13,14,15,16,17,18,19,20,21,22,23,24],[],[(25,false),(26,false),(27,false)],[]⟩)]),
 (105,[(24,⟨[0,1,2,3,4,5,6,7,8,9,10,11],[],[(12,true),(13,false),(14,false),(15,false)],[]⟩),(37,⟨[0,1,2,3,4,5,6,7,8,9,10,11,12,13,14,15,16,17,18,19,20,21,22,23,24],[],[(25,true),(26,false),(27,false),(28,false)],[]⟩)]),
 (106,[(8,⟨[0,1,2,3,4,5,6,7,8,9,10,11,12,13,14,15,16],[],[],[]⟩),(9,⟨[0,1,2,3,4,5,6,7,8,9,10,11,12],[],[],[]⟩),(17,⟨[0,1,2,3,4,5,6,7,8],[],[(9,false)],[]⟩),(18,⟨[0,1,2,3,4,5,6,7,8],[],[(9,false)],[]⟩),(22,⟨[0,1,2,3,4,5,6,7,8,9,10,11,12,13,14,15,16,17,18,19,20,21,22,23],[],[(24,true),(25,false),(26,false),(27,false)],[]⟩),(31,⟨[0,1,2,3,4,5,6,7,8,9,10],[],[(11,false)],[]⟩),(32,⟨[0,1,2,3,4,5,6,7,8,9,10,11],[],[(12,false)],[]⟩),(34,⟨[0,1,2,3],[],[(4,true),(5,true),(6,true),(7,false)],[]⟩)]),
 (107,[(4,⟨[0,1,2,3,4,5,6],[],[],[]⟩),(5,⟨[0,1,2,3,4,5,6],[],[],[]⟩)]),
 (109,[(3,⟨[0,1,2,3,4,5],[6],[(7,false)],[]⟩),(7,⟨[0,1,2,3,4,5,6,7,8],[],[(9,true),(10,false),(11,false)],[]⟩)]),
 (113,[(10,⟨[0,1,2,3,4,5,6,7,8,9],[],[(10,false),(11,false),(12,false)],[]⟩)]),
 (114,[(15,⟨[0,1,2,3,4,5,6,7,8,9,10,11,12,13],[],[(14,false),(15,false),(16,false)],[]⟩),(24,⟨[0,1,2,3,4,5,6,7,8,9,10,11,12,13],[14,15],[(16,true),(17,false)],[]⟩),(25,⟨[0,1,2,3,4,5,6,7,8,9,10,11,12],[],[],[]⟩),(27,⟨[0,1,2,3,4,5,6,7,8,9,10],[],[(11,true),(12,false),(13,false)],[]⟩)]),
 (118,[(7,⟨[0,1,2,3,4,5],[],[],[]⟩),(19,⟨[0,1,2,3,4,5,6,7,8,9,10,11,12,13,14,15,16,17,18,19,20,21,22,23,24],[25],[(26,false)],[]⟩)]),
 (121,[(7,⟨[0,1,2,3,4],[],[],[]⟩),(25,⟨[0,1,2,3,4,5,6],[],[(7,false),(8,false)],[]⟩),(35,⟨[0,1,2,3,4,5,6,7,8,9,10,11,12,13,14,15,16,17,18,19,20,21,22,23,24,25,26],[],[(27,false),(28,false),(29,false)],[]⟩)]),
 (123,[(29,⟨[0,1,2,3,4,5,6,7,8,9,10,11,12,13,14,15,16,17,18,19,20,21,22,23,24,25],[],[],[]⟩)]),
 (128,[(11,⟨[0,1,2,3,4,5,6,7,8,9,10,11,12,13],[],[],[]⟩)]),
 (130,[(7,⟨[0,1,2,3,4,5,6],[],[],[]⟩),(9,⟨[0,1,2,3,4,5,6,7],[],[],[]⟩)]),
 (137,[(1,⟨[0,1,2,3,4,5,6,7,8,9,10,11],[],[],[]⟩)]),
 (138,[(5,⟨[0,1,2,3,4,5,6,7,8,9,10,11,12,13,14,15,16],[],[],[]⟩)]),
 (140,[(14,⟨[0,1,2,3,4,5,6,7,8,9,10,11,12],[],[(13,false),(14,false),(15,false)],[]⟩)]),
 (141,[(1,⟨[0,1,2,3,4,5,6,7,8,9,10,11,12,13,14,15,16,17,18,19,20,21,22,23,24],[],[],[]⟩)]),
 (151,[(7,⟨[0,1,2,3,4,5,6,7,8,9,10,11,12,13,14],[],[],[]⟩)]),
 (152,[(6,⟨[0,1,2,3,4,5,6,7,8,9,10,11,12,13,14,15,16,17],[],[],[]⟩),(15,⟨[0,1,2,3,4,5,6,7,8,9,10,11,12,13,14,15,16,17,18,19,20,21,22],[],[(23,false),(24,false),(25,false),(26,false)],[]⟩),(17,⟨[0,1,2,3,4,5,6],[],[(7,true),(8,false),(9,false)],[]⟩)]),
 (153,[(5,⟨[0,1,2,3,4,5,6,7,8,9,10,11],[12,13],[(14,true),(15,false)],[]⟩),(6,⟨[0,1,2,3,4,5,6,7,8,9,10,11,12,13,14,15,16,17,18,19,20,21,22,23,24,25,26,27,28,29,30,31,32,33,34,35,36,37,38,39,40,41],[],[(42,true),(43,true),(44,false),(45,false),(46,false)],[]⟩),(11,⟨[0,1,2,3,4,5,6,7,8,9,10,11,12,13,14,15],[],[(16,true),(17,true),(18,false),(19,false)],[0,3,5,6,9,11,13,15]⟩)]),
 (156,[(9,⟨[0,1,2,3,4,5,6,7,8,9,10,11,12,13,14,15,16,17,18,19,20],[],[],[]⟩),(34,⟨[0,1,2,3,4,5,6,7],[],[],[]⟩)]),
 (158,[(25,⟨[0,1,2,3,4,5,6,7],[],[(8,false)],[]⟩)]),
 (159,[(1,⟨[0,1,2,3,4,5,6,7,8,9,10,11,12,13,14,15,16,17,18,19,20,21,22,23,24,25,26],[],[],[]⟩)]),
 (161,[(1,⟨[0,1,2,3,4,5,6,7,8,9,10,11,12,13,14],[],[],[]⟩)]),
 (168,[(1,⟨[0,1,2,3,4,5,6,7,8,9,10,11,12,13,14,15,16,17,18,19,20,21,22,23,24,25,26,27,28,29],[30,31],[(32,true),(33,false)],[]⟩)]),
 (170,[(1,⟨[0,1,2,3,4,5,6,7,8,9],[],[(10,false),(11,false),(12,false)],[]⟩)]),
 (173,[(6,⟨[0,1,2,3,4,5,6,7,8,9],[],[],[]⟩),(11,⟨[0,1,2,3,4,5,6,7,8,9],[],[],[]⟩)]),
 (175,[(5,⟨[0,1,2,3,4,5,6,7],[],[],[]⟩),(8,⟨[0,1,2,3,4,5,6,7,8,9,10,11,12,13,14,15],[],[],[]⟩)]),
 (176,[(1,⟨[0,1,2,3,4,5,6,7,8,9,10,11,12,13,14],[],[(15,false)],[]⟩)]),
 (177,[(1,⟨[0,1,2,3,4,5],[6,7],[(8,false),(9,false)],[]⟩),(2,⟨[0,1,2,3,4,5,6,7,8,9],[],[(10,false),(11,false),(12,false)],[]⟩)]),
 (181,[(8,⟨[0,1,2,3,4,5,6,7,8,9],[],[],[]⟩)]),
 (182,[(4,⟨[0,1,2,3,4,5],[],[],[]⟩)]),
 (189,[(1,⟨[0,1,2,3,4,5,6,7,8,9,10,11,12,13,14,15],[],[],[]⟩),(10,⟨[0,1,2,3,4,5,6,7,8,9,10,11,12,13,14,15],[],[],[]⟩)]),
 (190,[(1,⟨[0,1,2,3,4,5,6,7,8,9,10,11,12],[],[(13,false)],[]⟩)]),
 (194,[(1,⟨[0,1,2,3,4,5,6,7,8,9],[],[(10,false),(11,false),(12,false)],[]⟩)]),
 (196,[(8,⟨[0,1,2,3],[4,5],[(6,true),(7,false)],[]⟩)]),
 (201,[(6,⟨[0,1,2,3,4,5,6,7,8,9,10],[],[],[]⟩)]),
 (202,[(6,⟨[0,1,2,3,4,5,6,7,8,9],[],[],[]⟩),(11,⟨[0,1,2,3,4,5,6,7,8,9],[],[],[]⟩)]),
 (203,[(17,⟨[0,1,2,3,4,5,6,7,8,9,10,11,12,13,14],[],[],[]⟩)]),
 (205,[(0,⟨[0,1,2,3,4,5,6,7,8,9,10,11,12,13,14],[],[],[]⟩)]),
 (209,[(1,⟨[0,1,2,3,4,5,6,7,8,9,10,11,12,13,14,15,16,17],[],[],[]⟩)]),
 (210,[(1,⟨[0,1,2,3,4],[],[],[]⟩)]),
 (211,[(4,⟨[0,1,2,3,4,5,6,7,8,9,10,11],[],[],[]⟩),(5,⟨[0,1,2,3,4,5,6,7,8],[],[(9,false)],[]⟩)]),
 (225,[(2,⟨[0,1,2,3],[],[(4,true),(5,false)],[]⟩),(3,⟨[0,1,2,3],[],[(4,true),(5,false)],[]⟩)]),
 (227,[(17,⟨[0,1,2,3,4,5,6,7,8,9,10,11,12,13,14,15,16],[],[],[]⟩)]),
 (229,[(4,⟨[0,1,2,3,4,5,6,7,8,9,10,11,12,13,14],[],[],[]⟩),(6,⟨[0,1,2,3,4,5,6,7,8,9,10,11,12,13,14],[],[(15,false),(16,false),(17,false)],[]⟩)]),
 (230,[(10,⟨[0,1,2,3,4,5,6,7,8,9,10,11,12,13,14,15,16],[],[(17,false),(18,false),(19,false)],[]⟩)]),
 (231,[(10,⟨[0,1,2,3,4,5,6,7,8,9,10,11,12,13,14,15,16],[],[(17,false),(18,false),(19,false)],[]⟩)]),
 (233,[(3,⟨[0,1,2,3,4,5,6,7,8,9,10,11,12],[],[(13,false),(14,false),(15,false)],[]⟩)]),
 (234,[(5,⟨[0,1,2,3,4,5,6,7,8,9,10,11,12,13,14,15],[],[],[]⟩),(11,⟨[0,1,2,3,4,5,6,7,8,9,10,11,12,13,14],[],[(15,false),(16,false),(17,false)],[]⟩),(16,⟨[0,1,2,3,4,5,6,7,8,9,10],[],[],[]⟩),(17,⟨[0,1,2,3,4,5,6,7,8,9,10,11,12,13,14],[],[(15,false),(16,false),(17,false)],[]⟩),(22,⟨[0,1,2,3,4,5,6,7,8,9,10],[],[],[]⟩),(23,⟨[0,1,2,3,4,5,6,7,8,9,10,11,12,13,14],[],[(15,false),(16,false),(17,false)],[]⟩)]),
 (236,[(1,⟨[0,1,2,3,4,5,6,7,8,9,10,11,12],[],[(13,false),(14,false),(15,false)],[]⟩),(3,⟨[0,1,2,3,4,5,6,7,8,9,10,11,12,13,14],[],[],[]⟩),(5,⟨[0,1,2,3,4,5,6,7,8,9,10,11,12,13],[],[],[]⟩),(8,⟨[0,1,2,3,4,5,6,7,8,9,10,11,12],[],[(13,false),(14,false),(15,false)],[]⟩)]),
 (237,[(1,⟨[0,1,2,3,4,5,6,7,8,9,10,11,12],[],[(13,false),(14,false),(15,false)],[]⟩),(3,⟨[0,1,2,3,4,5,6,7,8,9,10,11,12,13],[],[],[]⟩),(5,⟨[0,1,2,3,4,5,6,7,8,9,10,11,12,13,14],[],[],[]⟩),(8,⟨[0,1,2,3,4,5,6,7,8,9,10,11,12],[],[(13,false),(14,false),(15,false)],[]⟩),(10,⟨[0,1,2,3,4,5,6,7,8,9,10,11,12],[],[(13,false),(14,false),(15,false)],[]⟩),(13,⟨[0,1,2,3,4,5,6,7,8,9,10,11,12,13],[],[],[]⟩),(15,⟨[0,1,2,3,4,5,6,7,8,9,10,11,12,13,14],[],[],[]⟩),(18,⟨[0,1,2,3,4,5,6,7,8,9,10,11,12],[],[(13,false),(14,false),(15,false)],[]⟩),(21,⟨[0,1,2,3,4,5,6,7,8,9,10,11,12],[],[(13,false),(14,false),(15,false)],[]⟩)]),
 (243,[(9,⟨[0,1,2,3,4,5,6,7,8,9,10,11,12,13,14,15,16,17,18,19,20,21,22,23,24,25,26,27,28,29,30,31,32,33],[],[],[]⟩)]),
 (251,[(4,⟨[0,1,2,3,4,5,6,7,8,9,10,11,12,13,14,15,16],[],[],[]⟩),(6,⟨[0,1,2,3,4,5,6,7,8,9,10,11,12,13,14],[],[(15,false),(16,false),(17,false)],[]⟩)]),
 (252,[(10,⟨[0,1,2,3,4,5,6,7,8,9,10,11,12,13,14,15,16],[],[(17,false),(18,false),(19,false)],[]⟩)]),
 (253,[(10,⟨[0,1,2,3,4,5,6,7,8,9,10,11,12,13,14,15,16],[],[(17,false),(18,false),(19,false)],[]⟩)]),
 (255,[(3,⟨[0,1,2,3,4,5,6,7,8,9,10,11,12],[],[(13,false),(14,false),(15,false)],[]⟩)]),
 (256,[(5,⟨[0,1,2,3,4,5,6,7,8,9,10,11,12,13,14,15,16,17],[],[],[]⟩),(11,⟨[0,1,2,3,4,5,6,7,8,9,10,11,12,13,14],[],[(15,false),(16,false),(17,false)],[]⟩),(16,⟨[0,1,2,3,4,5,6,7,8,9,10,11,12],[],[],[]⟩),(17,⟨[0,1,2,3,4,5,6,7,8,9,10,11,12,13,14],[],[(15,false),(16,false),(17,false)],[]⟩),(22,⟨[0,1,2,3,4,5,6,7,8,9,10,11,12],[],[],[]⟩),(23,⟨[0,1,2,3,4,5,6,7,8,9,10,11,12,13,14],[],[(15,false),(16,false),(17,false)],[]⟩)]),
 (257,[(1,⟨[0,1,2,3,4,5,6,7,8,9,10,11,12],[],[(13,false),(14,false),(15,false)],[]⟩),(3,⟨[0,1,2,3,4,5,6,7,8,9,10,11,12,13,14,15,16],[],[],[]⟩),(5,⟨[0,1,2,3,4,5,6,7,8,9,10,11,12,13,14,15],[],[],[]⟩),(8,⟨[0,1,2,3,4,5,6,7,8,9,10,11,12],[],[(13,false),(14,false),(15,false)],[]⟩)]),
 (258,[(1,⟨[0,1,2,3,4,5,6,7,8,9,10,11,12],[],[(13,false),(14,false),(15,false)],[]⟩),(3,⟨[0,1,2,3,4,5,6,7,8,9,10,11,12,13,14,15],[],[],[]⟩),(5,⟨[0,1,2,3,4,5,6,7,8,9,10,11,12,13,14,15,16],[],[],[]⟩),(8,⟨[0,1,2,3,4,5,6,7,8,9,10,11,12],[],[(13,false),(14,false),(15,false)],[]⟩),(10,⟨[0,1,2,3,4,5,6,7,8,9,10,11,12],[],[(13,false),(14,false),(15,false)],[]⟩),(13,⟨[0,1,2,3,4,5,6,7,8,9,10,11,12,13,14,15],[],[],[]⟩),(15,⟨[0,1,2,3,4,5,6,7,8,9,10,11,12,13,14,15,16],[],[],[]⟩),(18,⟨[0,1,2,3,4,5,6,7,8,9,10,11,12],[],[(13,false),(14,false),(15,false)],[]⟩),(21,⟨[0,1,2,3,4,5,6,7,8,9,10,11,12],[],[(13,false),(14,false),(15,false)],[]⟩)]),
 (259,[(3,⟨[0,1,2,3,4,5,6,7,8,9,10,11,12,13,14,15,16,17,18,19],[],[],[]⟩),(5,⟨[0,1,2,3,4,5,6,7,8,9,10,11,12,13],[],[],[]⟩),(6,⟨[0,1,2,3,4,5,6,7,8,9,10,11,12,13,14,15,16,17,18,19,20],[],[(21,false),(22,false),(23,false)],[]⟩)]),
 (261,[(1,⟨[0,1,2,3,4,5,6,7,8],[],[(9,false)],[]⟩),(2,⟨[0,1,2,3,4,5,6,7,8],[],[(9,false)],[]⟩),(3,⟨[0,1,2,3,4,5,6,7,8],[],[(9,false)],[]⟩)]),
 (264,[(6,⟨[0,1,2,3,4,5,6],[],[],[]⟩),(7,⟨[0,1,2,3,4,5,6],[],[],[]⟩),(12,⟨[0,1,2,3,4,5,6,7,8,9,10,11],[],[(12,false)],[]⟩)]),
 (265,[(4,⟨[0,1,2,3,4,5,6,7,8,9,10,11,12,13,14,15,16],[],[],[]⟩),(6,⟨[0,1,2,3,4,5,6,7,8,9,10,11,12,13,14],[],[(15,false),(16,false),(17,false)],[]⟩)]),
 (266,[(5,⟨[0,1,2,3,4,5,6,7,8,9,10],[],[],[]⟩),(11,⟨[0,1,2,3,4,5,6,7,8,9,10,11,12,13,14],[],[(15,false),(16,false),(17,false)],[]⟩),(17,⟨[0,1,2,3,4,5,6,7,8,9,10,11],[],[],[]⟩),(23,⟨[0,1,2,3,4,5,6,7,8,9,10,11,12,13,14],[],[(15,false),(16,false),(17,false)],[]⟩),(35,⟨[0,1,2,3,4,5,6,7,8,9,10,11,12,13],[],[],[]⟩)]),
 (267,[(5,⟨[0,1,2,3,4,5,6,7,8,9,10],[],[],[]⟩),(11,⟨[0,1,2,3,4,5,6,7,8,9,10,11,12,13,14],[],[(15,false),(16,false),(17,false)],[]⟩),(17,⟨[0,1,2,3,4,5,6,7,8,9,10,11],[],[],[]⟩),(23,⟨[0,1,2,3,4,5,6,7,8,9,10,11,12,13,14],[],[(15,false),(16,false),(17,false)],[]⟩),(35,⟨[0,1,2,3,4,5,6,7,8,9,10,11,12,13],[],[],[]⟩)]),
 (269,[(3,⟨[0,1,2,3,4,5,6,7,8,9,10,11,12,13,14,15,16,17,18,19,20,21],[],[],[]⟩),(5,⟨[0,1,2,3,4,5,6,7,8,9,10,11,12,13,14,15],[],[],[]⟩),(6,⟨[0,1,2,3,4,5,6,7,8,9,10,11,12,13,14,15,16,17,18,19,20],[],[(21,false),(22,false),(23,false)],[]⟩)]),
 (272,[(1,⟨[0,1,2,3,4,5,6,7,8],[],[],[]⟩)]),
 (275,[(1,⟨[0,1,2,3,4,5,6,7,8,9,10],[],[],[]⟩)]),
 (276,[(3,⟨[0,1,2,3,4,5,6,7,8,9,10,11,12,13,14,15,16,17,18,19,20],[],[(21,false),(22,false),(23,false)],[]⟩)]),
 (277,[(3,⟨[0,1,2,3,4,5,6,7,8,9,10,11,12,13,14,15,16,17,18,19,20],[],[(21,false),(22,false),(23,false)],[]⟩)])
]
def plF (f r:Nat):Option fE:=match look plL f with|some l=>look l r|none=>none
def fnB (f : Nat)(fn : Func) : Bool := (!(fn.name == "runtime.NumGoroutine")) && (match fn.body with | some b => dY (plF f) b | none => true)
def GV:List (Nat × Func)→Bool|[]=>true|(f,fn)::r=>fnB f fn&&GV r
theorem dP {l m:List (Nat × Func)}(h:GV l=true)(hm:GV m=true):GV (l++m)=true:=by
 induction l with
 |nil=>exact hm
 |cons x r ih=>simp only [List.cons_append,GV,Bool.and_eq_true] at h ⊢;exact⟨h.1,ih h.2⟩
theorem aFH:GV aHp=true:=by decide +kernel
theorem aHH:GV aG4=true:=by decide +kernel
theorem aHF:GV aHw=true:=by decide +kernel
theorem aHN:GV aGO=true:=by decide +kernel
theorem aGg:GV aHs=true:=by decide +kernel
theorem aGB:GV aHM=true:=by decide +kernel
theorem aH9:GV aH3=true:=by decide +kernel
theorem aGV:GV aHA=true:=by decide +kernel
theorem aFs:GV aFV=true:=by decide +kernel
theorem aGz:GV aGy=true:=by decide +kernel
theorem aCm:GV aBm=true:=by decide +kernel
theorem aEc:GV aAY=true:=by decide +kernel
theorem aCt:GV aBP=true:=by decide +kernel
theorem aDd:GV aBF=true:=by decide +kernel
theorem aHE:GV ftL=true:=dP aFH (dP aHH (dP aHF (dP aHN (dP aGg (dP aGB (dP aH9 (dP aGV (dP aFs (dP aGz (dP aCm (dP aEc (dP aCt aDd))))))))))))
end Go.Aw
end
