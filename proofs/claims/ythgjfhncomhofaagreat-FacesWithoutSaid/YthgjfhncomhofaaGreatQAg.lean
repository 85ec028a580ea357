/-
  Parts of a proof. No condition.
-/
import Derived.Test.YthgjfhncomhofaaGreatQAf
set_option linter.unusedSimpArgs false
set_option linter.unusedVariables false
noncomputable section
namespace Go.Aw
open Proofs
def FI (l:List (Nat × Func)):Prop:=∀ p∈l,Tryz.prog.funcs[p.1]? = some p.2
theorem FI.nil:FI []:=fun _ h=>by cases h
theorem FI.cons {n:Nat}{f:Func}{l:List (Nat × Func)}(h:Tryz.prog.funcs[n]? = some f)(hl:FI l):FI ((n,f)::l):=ae.2 ⟨h,hl⟩
theorem FI.append {l m:List (Nat × Func)}(h:FI l)(hm:FI m):FI (l++m):=fun p hp=>(List.mem_append.1 hp).elim (h p) (hm p)
noncomputable def aLK:List (Nat × Func):=[(133,Tryz.f133),(101,Tryz.f101),(102,Tryz.f102),(114,Tryz.f114),(106,Tryz.f106),(59,Tryz.f59),(64,Tryz.f64),(54,Tryz.f54),(152,Tryz.f152),(135,Tryz.f135),(132,Tryz.f132),(111,Tryz.f111),(127,Tryz.f127),(119,Tryz.f119),(163,Tryz.f163),(140,Tryz.f140),(134,Tryz.f134),(117,Tryz.f117),(113,Tryz.f113),(110,Tryz.f110)]
theorem aHE:FI aLK:=.cons Tryz.func133 (.cons Tryz.func101 (.cons Tryz.func102 (.cons Tryz.func114 (.cons Tryz.func106 (.cons Tryz.func59 (.cons Tryz.func64 (.cons Tryz.func54 (.cons Tryz.func152 (.cons Tryz.func135 (.cons Tryz.func132 (.cons Tryz.func111 (.cons Tryz.func127 (.cons Tryz.func119 (.cons Tryz.func163 (.cons Tryz.func140 (.cons Tryz.func134 (.cons Tryz.func117 (.cons Tryz.func113 (.cons Tryz.func110 (.nil))))))))))))))))))))
noncomputable def aNa:List (Nat × Func):=[(107,Tryz.f107),(105,Tryz.f105),(88,Tryz.f88),(86,Tryz.f86),(69,Tryz.f69),(40,Tryz.f40),(38,Tryz.f38),(141,Tryz.f141),(126,Tryz.f126),(125,Tryz.f125),(124,Tryz.f124),(123,Tryz.f123),(121,Tryz.f121),(109,Tryz.f109),(108,Tryz.f108),(97,Tryz.f97),(96,Tryz.f96),(63,Tryz.f63),(51,Tryz.f51),(49,Tryz.f49)]
theorem aIp:FI aNa:=.cons Tryz.func107 (.cons Tryz.func105 (.cons Tryz.func88 (.cons Tryz.func86 (.cons Tryz.func69 (.cons Tryz.func40 (.cons Tryz.func38 (.cons Tryz.func141 (.cons Tryz.func126 (.cons Tryz.func125 (.cons Tryz.func124 (.cons Tryz.func123 (.cons Tryz.func121 (.cons Tryz.func109 (.cons Tryz.func108 (.cons Tryz.func97 (.cons Tryz.func96 (.cons Tryz.func63 (.cons Tryz.func51 (.cons Tryz.func49 (.nil))))))))))))))))))))
noncomputable def aLI:List (Nat × Func):=[(23,Tryz.f23),(185,Tryz.f185),(179,Tryz.f179),(162,Tryz.f162),(161,Tryz.f161),(153,Tryz.f153),(15,Tryz.f15),(137,Tryz.f137),(118,Tryz.f118),(116,Tryz.f116),(115,Tryz.f115),(112,Tryz.f112),(104,Tryz.f104),(3,Tryz.f3),(10,Tryz.f10),(11,Tryz.f11),(12,Tryz.f12),(13,Tryz.f13),(14,Tryz.f14),(37,Tryz.f37)]
theorem aI2:FI aLI:=.cons Tryz.func23 (.cons Tryz.func185 (.cons Tryz.func179 (.cons Tryz.func162 (.cons Tryz.func161 (.cons Tryz.func153 (.cons Tryz.func15 (.cons Tryz.func137 (.cons Tryz.func118 (.cons Tryz.func116 (.cons Tryz.func115 (.cons Tryz.func112 (.cons Tryz.func104 (.cons Tryz.func3 (.cons Tryz.func10 (.cons Tryz.func11 (.cons Tryz.func12 (.cons Tryz.func13 (.cons Tryz.func14 (.cons Tryz.func37 (.nil))))))))))))))))))))
noncomputable def aNC:List (Nat × Func):=[(39,Tryz.f39),(41,Tryz.f41),(42,Tryz.f42),(43,Tryz.f43),(44,Tryz.f44),(45,Tryz.f45),(46,Tryz.f46),(47,Tryz.f47),(48,Tryz.f48),(50,Tryz.f50),(52,Tryz.f52),(53,Tryz.f53),(66,Tryz.f66),(67,Tryz.f67),(70,Tryz.f70),(89,Tryz.f89),(90,Tryz.f90),(93,Tryz.f93),(94,Tryz.f94),(98,Tryz.f98)]
theorem aIE:FI aNC:=.cons Tryz.func39 (.cons Tryz.func41 (.cons Tryz.func42 (.cons Tryz.func43 (.cons Tryz.func44 (.cons Tryz.func45 (.cons Tryz.func46 (.cons Tryz.func47 (.cons Tryz.func48 (.cons Tryz.func50 (.cons Tryz.func52 (.cons Tryz.func53 (.cons Tryz.func66 (.cons Tryz.func67 (.cons Tryz.func70 (.cons Tryz.func89 (.cons Tryz.func90 (.cons Tryz.func93 (.cons Tryz.func94 (.cons Tryz.func98 (.nil))))))))))))))))))))
noncomputable def aLu:List (Nat × Func):=[(103,Tryz.f103),(120,Tryz.f120),(122,Tryz.f122),(128,Tryz.f128),(129,Tryz.f129),(130,Tryz.f130),(131,Tryz.f131),(144,Tryz.f144),(146,Tryz.f146),(147,Tryz.f147),(148,Tryz.f148),(149,Tryz.f149),(150,Tryz.f150),(151,Tryz.f151),(154,Tryz.f154),(156,Tryz.f156),(157,Tryz.f157),(158,Tryz.f158),(164,Tryz.f164),(165,Tryz.f165)]
theorem aI7:FI aLu:=.cons Tryz.func103 (.cons Tryz.func120 (.cons Tryz.func122 (.cons Tryz.func128 (.cons Tryz.func129 (.cons Tryz.func130 (.cons Tryz.func131 (.cons Tryz.func144 (.cons Tryz.func146 (.cons Tryz.func147 (.cons Tryz.func148 (.cons Tryz.func149 (.cons Tryz.func150 (.cons Tryz.func151 (.cons Tryz.func154 (.cons Tryz.func156 (.cons Tryz.func157 (.cons Tryz.func158 (.cons Tryz.func164 (.cons Tryz.func165 (.nil))))))))))))))))))))
noncomputable def aMx:List (Nat × Func):=[(166,Tryz.f166),(167,Tryz.f167),(168,Tryz.f168),(169,Tryz.f169),(170,Tryz.f170),(171,Tryz.f171),(172,Tryz.f172),(173,Tryz.f173),(174,Tryz.f174),(175,Tryz.f175),(176,Tryz.f176),(177,Tryz.f177),(178,Tryz.f178),(180,Tryz.f180),(181,Tryz.f181),(182,Tryz.f182),(183,Tryz.f183),(184,Tryz.f184),(195,Tryz.f195),(196,Tryz.f196)]
theorem aJC:FI aMx:=.cons Tryz.func166 (.cons Tryz.func167 (.cons Tryz.func168 (.cons Tryz.func169 (.cons Tryz.func170 (.cons Tryz.func171 (.cons Tryz.func172 (.cons Tryz.func173 (.cons Tryz.func174 (.cons Tryz.func175 (.cons Tryz.func176 (.cons Tryz.func177 (.cons Tryz.func178 (.cons Tryz.func180 (.cons Tryz.func181 (.cons Tryz.func182 (.cons Tryz.func183 (.cons Tryz.func184 (.cons Tryz.func195 (.cons Tryz.func196 (.nil))))))))))))))))))))
noncomputable def aLo:List (Nat × Func):=[(197,Tryz.f197),(198,Tryz.f198),(199,Tryz.f199),(200,Tryz.f200),(201,Tryz.f201),(202,Tryz.f202),(203,Tryz.f203),(204,Tryz.f204),(206,Tryz.f206),(207,Tryz.f207),(208,Tryz.f208),(209,Tryz.f209),(210,Tryz.f210),(211,Tryz.f211),(212,Tryz.f212),(213,Tryz.f213),(214,Tryz.f214),(216,Tryz.f216),(217,Tryz.f217),(220,Tryz.f220)]
theorem aID:FI aLo:=.cons Tryz.func197 (.cons Tryz.func198 (.cons Tryz.func199 (.cons Tryz.func200 (.cons Tryz.func201 (.cons Tryz.func202 (.cons Tryz.func203 (.cons Tryz.func204 (.cons Tryz.func206 (.cons Tryz.func207 (.cons Tryz.func208 (.cons Tryz.func209 (.cons Tryz.func210 (.cons Tryz.func211 (.cons Tryz.func212 (.cons Tryz.func213 (.cons Tryz.func214 (.cons Tryz.func216 (.cons Tryz.func217 (.cons Tryz.func220 (.nil))))))))))))))))))))
noncomputable def aMj:List (Nat × Func):=[(221,Tryz.f221),(222,Tryz.f222),(223,Tryz.f223),(224,Tryz.f224),(225,Tryz.f225),(226,Tryz.f226),(227,Tryz.f227),(228,Tryz.f228),(229,Tryz.f229),(230,Tryz.f230),(231,Tryz.f231),(232,Tryz.f232),(233,Tryz.f233),(234,Tryz.f234),(236,Tryz.f236),(237,Tryz.f237),(238,Tryz.f238),(239,Tryz.f239),(240,Tryz.f240),(241,Tryz.f241)]
theorem aKa:FI aMj:=.cons Tryz.func221 (.cons Tryz.func222 (.cons Tryz.func223 (.cons Tryz.func224 (.cons Tryz.func225 (.cons Tryz.func226 (.cons Tryz.func227 (.cons Tryz.func228 (.cons Tryz.func229 (.cons Tryz.func230 (.cons Tryz.func231 (.cons Tryz.func232 (.cons Tryz.func233 (.cons Tryz.func234 (.cons Tryz.func236 (.cons Tryz.func237 (.cons Tryz.func238 (.cons Tryz.func239 (.cons Tryz.func240 (.cons Tryz.func241 (.nil))))))))))))))))))))
noncomputable def aLH:List (Nat × Func):=[(242,Tryz.f242),(243,Tryz.f243),(244,Tryz.f244)]
theorem aJw:FI aLH:=.cons Tryz.func242 (.cons Tryz.func243 (.cons Tryz.func244 (.nil)))
noncomputable def ftL:List (Nat × Func):=aLK++(aNa++(aLI++(aNC++(aLu++(aMx++(aLo++(aMj++(aLH))))))))
theorem aMK:FI ftL:=FI.append aHE (FI.append aIp (FI.append aI2 (FI.append aIE (FI.append aI7 (FI.append aJC (FI.append aID (FI.append aKa aJw)))))))
def plL:List (Nat × List (Nat × gQ)):=[
 (13,[(16,⟨[0,1,2,3,4,5,6,7,8,9,10,11,12,13,14,15],[],[(16,false),(17,false),(18,false)],[]⟩),(38,⟨[0,1,2,3,4,5],[],[],[]⟩),(42,⟨[0,1,2,3,4,5,6,7,8,9,10,11,12,13],[],[],[]⟩),(44,⟨[0,1,2,3,4,5,6,7,8,9,10,11,12,13],[],[],[]⟩)]),
 (14,[(6,⟨[0,1,2,3,4,5,6,7,8,9,10],[],[],[]⟩),(11,⟨[0,1,2,3,4,5,6,7,8,9,10],[],[],[]⟩)]),
 (15,[(6,⟨[0,1,2,3,4,5,6,7,8],[],[],[]⟩)]),
 (38,[(10,⟨[0,1,2,3,4,5,6,7,8,9,10,11],[],[(12,false),(13,false),(14,false)],[]⟩)]),
 (45,[(1,⟨[0,1,2,3,4],[],[(5,true),(6,false),(7,false)],[]⟩)]),
 (47,[(14,⟨[0,1,2,3,4,5,6,7],[],[(8,false),(9,false),(10,false)],[]⟩),(15,⟨[0,1,2,3,4,5,6,7,8,9,10,11],[],[],[]⟩),(32,⟨[0,1,2,3,4,5,6,7,8],[9],[(10,false)],[]⟩),(33,⟨[0,1,2,3,4,5,6,7,8,9,10,11,12,13,14,15,16,17,18,19,20,21,22,23,24],[],[(25,false),(26,false),(27,false)],[]⟩)]),
 (49,[(1,⟨[0,1,2,3,4,5,6,7,8,9,10,11,12,13,14,15,16,17,18,19,20],[],[(21,false)],[]⟩)]),
 (50,[(24,⟨[0,1,2,3,4,5,6,7,8,9,10,11],[],[(12,true),(13,false),(14,false),(15,false)],[]⟩),(37,⟨[0,1,2,3,4,5,6,7,8,9,10,11,12,13,14,15,16,17,18,19,20,21,22,23,24],[],[(25,true),(26,false),(27,false),(28,false)],[]⟩)]),
 (51,[(11,⟨[0,1,2,3,4,5,6,7,8,9,10,11,12,13,14,15,16,17,18,19,20,21,22,23,24,25,26,27,28],[],[],[]⟩)]),
 (52,[(8,⟨[0,1,2,3,4,5,6,7,8,9,10,11,12,13,14,15,16],[],[],[]⟩),(9,⟨[0,1,2,3,4,5,6,7,8,9,10,11,12],[],[],[]⟩),(17,⟨[0,1,2,3,4,5,6,7,8],[],[(9,false)],[]⟩),(18,⟨[0,1,2,3,4,5,6,7,8],[],[(9,false)],[]⟩),(22,⟨[0,1,2,3,4,5,6,7,8,9,10,11,12,13,14,15,16,17,18,19,20,21,22,23],[],[(24,true),(25,false),(26,false),(27,false)],[]⟩),(31,⟨[0,1,2,3,4,5,6,7,8,9,10],[],[(11,false)],[]⟩),(32,⟨[0,1,2,3,4,5,6,7,8,9,10,11],[],[(12,false)],[]⟩),(34,⟨[0,1,2,3],[],[(4,true),(5,true),(6,true),(7,false)],[]⟩)]),
 (53,[(4,⟨[0,1,2,3,4,5,6],[],[],[]⟩),(5,⟨[0,1,2,3,4,5,6],[],[],[]⟩)]),
 (54,[(1,⟨[0,1,2,3,4,5,6,7,8,9,10,11,12,13,14,15,16,17,18,19,20],[],[(21,false)],[]⟩)]),
 (63,[(9,⟨[0,1,2,3,4,5,6,7],[],[],[]⟩),(23,⟨[0,1,2,3,4,5,6,7,8,9,10,11,12,13,14,15,16,17,18,19,20,21,22,23,24],[],[],[]⟩)]),
 (70,[(7,⟨[0,1,2,3,4,5,6,7,8,9,10,11,12,13,14],[],[],[]⟩)]),
 (102,[(7,⟨[0,1,2,3,4,5],[],[],[]⟩),(19,⟨[0,1,2,3,4,5,6,7,8,9,10,11,12,13,14,15,16,17,18,19,20,21,22,23,24],[25],[(26,false)],[]⟩)]),
 (114,[(1,⟨[0,1,2,3,4,5,6,7,8,9],[],[(10,false),(11,false),(12,false)],[]⟩)]),
 (117,[(6,⟨[0,1,2,3,4,5,6,7,8,9],[],[],[]⟩),(11,⟨[0,1,2,3,4,5,6,7,8,9],[],[],[]⟩)]),
 (119,[(5,⟨[0,1,2,3,4,5,6,7],[],[],[]⟩),(8,⟨[0,1,2,3,4,5,6,7,8,9,10,11,12,13,14,15],[],[],[]⟩)]),
 (120,[(1,⟨[0,1,2,3,4,5,6,7,8,9,10,11,12,13,14],[],[(15,false)],[]⟩)]),
 (122,[(1,⟨[0,1,2,3,4,5],[6,7],[(8,false),(9,false)],[]⟩),(2,⟨[0,1,2,3,4,5,6,7,8,9],[],[(10,false),(11,false),(12,false)],[]⟩)]),
 (125,[(5,⟨[0,1,2,3,4,5,6,7,8,9,10,11],[12,13],[(14,true),(15,false)],[]⟩),(6,⟨[0,1,2,3,4,5,6,7,8,9,10,11,12,13,14,15,16,17,18,19,20,21,22,23,24,25,26,27,28,29,30,31,32,33,34,35,36,37,38,39,40,41],[],[(42,true),(43,true),(44,false),(45,false),(46,false)],[]⟩),(11,⟨[0,1,2,3,4,5,6,7,8,9,10,11,12,13,14,15],[],[(16,true),(17,true),(18,false),(19,false)],[0,3,5,6,9,11,13,15]⟩)]),
 (128,[(9,⟨[0,1,2,3,4,5,6,7,8,9,10,11,12,13,14,15,16,17,18,19,20],[],[],[]⟩),(34,⟨[0,1,2,3,4,5,6,7],[],[],[]⟩)]),
 (130,[(25,⟨[0,1,2,3,4,5,6,7],[],[(8,false)],[]⟩)]),
 (132,[(8,⟨[0,1,2,3,4,5,6,7,8,9],[],[],[]⟩)]),
 (133,[(4,⟨[0,1,2,3,4,5],[],[],[]⟩)]),
 (140,[(6,⟨[0,1,2,3,4,5,6,7,8,9,10,11,12,13,14,15,16,17],[],[],[]⟩),(15,⟨[0,1,2,3,4,5,6,7,8,9,10,11,12,13,14,15,16,17,18,19,20,21,22],[],[(23,false),(24,false),(25,false),(26,false)],[]⟩),(17,⟨[0,1,2,3,4,5,6],[],[(7,true),(8,false),(9,false)],[]⟩)]),
 (146,[(0,⟨[0,1,2,3,4,5,6,7,8,9,10,11,12,13,14],[],[],[]⟩)]),
 (148,[(1,⟨[0,1,2,3,4,5,6],[7],[(8,false)],[]⟩),(9,⟨[0,1,2,3,4,5,6],[7],[(8,false)],[]⟩),(10,⟨[0,1,2,3,4,5,6,7,8,9,10,11,12,13,14],[],[],[]⟩)]),
 (158,[(9,⟨[0,1,2,3,4,5,6,7,8,9,10,11,12,13,14,15,16,17,18,19,20,21,22,23,24,25,26,27,28,29,30,31,32,33],[],[],[]⟩)]),
 (162,[(1,⟨[0,1,2,3,4,5,6,7,8,9,10,11,12,13,14,15],[],[],[]⟩),(10,⟨[0,1,2,3,4,5,6,7,8,9,10,11,12,13,14,15],[],[],[]⟩)]),
 (163,[(1,⟨[0,1,2,3,4,5,6,7,8,9,10,11,12],[],[(13,false)],[]⟩)]),
 (167,[(1,⟨[0,1,2,3,4,5,6,7,8,9],[],[(10,false),(11,false),(12,false)],[]⟩)]),
 (169,[(8,⟨[0,1,2,3],[4,5],[(6,true),(7,false)],[]⟩)]),
 (171,[(1,⟨[0,1,2,3,4,5,6,7,8,9,10,11,12,13,14,15,16,17,18,19,20,21,22,23,24,25,26,27,28,29],[30,31],[(32,true),(33,false)],[]⟩)]),
 (172,[(1,⟨[0,1,2,3,4,5,6,7,8,9,10,11,12,13,14,15,16,17,18,19,20,21,22,23,24,25,26],[],[],[]⟩)]),
 (173,[(1,⟨[0,1,2,3,4,5,6,7,8,9,10,11,12,13,14],[],[],[]⟩)]),
 (178,[(1,⟨[0,1,2,3,4,5,6,7,8,9,10,11,12,13,14,15,16,17],[],[],[]⟩)]),
 (179,[(1,⟨[0,1,2,3,4],[],[],[]⟩)]),
 (180,[(4,⟨[0,1,2,3,4,5,6,7,8,9,10,11],[],[],[]⟩),(5,⟨[0,1,2,3,4,5,6,7,8],[],[(9,false)],[]⟩)]),
 (183,[(5,⟨[0,1,2,3,4,5,6,7,8,9],[10],[(11,false)],[]⟩),(6,⟨[0,1,2,3,4,5,6,7,8,9],[10],[(11,false)],[]⟩)]),
 (203,[(6,⟨[0,1,2,3,4,5,6],[],[],[]⟩),(7,⟨[0,1,2,3,4,5,6],[],[],[]⟩),(12,⟨[0,1,2,3,4,5,6,7,8,9,10,11],[],[(12,false)],[]⟩)]),
 (207,[(2,⟨[0,1,2,3],[],[(4,true),(5,false)],[]⟩),(3,⟨[0,1,2,3],[],[(4,true),(5,false)],[]⟩)]),
 (208,[(17,⟨[0,1,2,3,4,5,6,7,8,9,10,11,12,13,14,15,16],[],[],[]⟩)]),
 (217,[(1,⟨[0,1,2,3,4,5,6,7,8],[],[(9,false)],[]⟩),(2,⟨[0,1,2,3,4,5,6,7,8],[],[(9,false)],[]⟩),(3,⟨[0,1,2,3,4,5,6,7,8],[],[(9,false)],[]⟩)]),
 (224,[(4,⟨[0,1,2,3,4,5,6,7,8,9,10,11,12,13,14,15,16],[],[],[]⟩),(6,⟨[0,1,2,3,4,5,6,7,8,9,10,11,12,13,14],[],[(15,false),(16,false),(17,false)],[]⟩)]),
 (225,[(10,⟨[0,1,2,3,4,5,6,7,8,9,10,11,12,13,14,15,16],[],[(17,false),(18,false),(19,false)],[]⟩)]),
 (226,[(10,⟨[0,1,2,3,4,5,6,7,8,9,10,11,12,13,14,15,16],[],[(17,false),(18,false),(19,false)],[]⟩)]),
 (228,[(3,⟨[0,1,2,3,4,5,6,7,8,9,10,11,12],[],[(13,false),(14,false),(15,false)],[]⟩)]),
 (229,[(5,⟨[0,1,2,3,4,5,6,7,8,9,10,11,12,13,14,15,16,17],[],[],[]⟩),(11,⟨[0,1,2,3,4,5,6,7,8,9,10,11,12,13,14],[],[(15,false),(16,false),(17,false)],[]⟩),(16,⟨[0,1,2,3,4,5,6,7,8,9,10,11,12],[],[],[]⟩),(17,⟨[0,1,2,3,4,5,6,7,8,9,10,11,12,13,14],[],[(15,false),(16,false),(17,false)],[]⟩),(22,⟨[0,1,2,3,4,5,6,7,8,9,10,11,12],[],[],[]⟩),(23,⟨[0,1,2,3,4,5,6,7,8,9,10,11,12,13,14],[],[(15,false),(16,false),(17,false)],[]⟩)]),
 (230,[(1,⟨[0,1,2,3,4,5,6,7,8,9,10,11,12],[],[(13,false),(14,false),(15,false)],[]⟩),(3,⟨[0,1,2,3,4,5,6,7,8,9,10,11,12,13,14,15,16],[],[],[]⟩),(5,⟨[0,1,2,3,4,5,6,7,8,9,10,11,12,13,14,15],[],[],[]⟩),(8,⟨[0,1,2,3,4,5,6,7,8,9,10,11,12],[],[(13,false),(14,false),(15,false)],[]⟩)]),
 (231,[(1,⟨[0,1,2,3,4,5,6,7,8,9,10,11,12],[],[(13,false),(14,false),(15,false)],[]⟩),(3,⟨[0,1,2,3,4,5,6,7,8,9,10,11,12,13,14,15],[],[],[]⟩),(5,⟨[0,1,2,3,4,5,6,7,8,9,10,11,12,13,14,15,16],[],[],[]⟩),(8,⟨[0,1,2,3,4,5,6,7,8,9,10,11,12],[],[(13,false),(14,false),(15,false)],[]⟩),(10,⟨[0,1,2,3,4,5,6,7,8,9,10,11,12],[],[(13,false),(14,false),(15,false)],[]⟩),(13,⟨[0,1,2,3,4,5,6,7,8,9,10,11,12,13,14,15],[],[],[]⟩),(15,⟨[0,1,2,3,4,5,6,7,8,9,10,11,12,13,14,15,16],[],[],[]⟩),(18,⟨[0,1,2,3,4,5,6,7,8,9,10,11,12],[],[(13,false),(14,false),(15,false)],[]⟩),(21,⟨[0,1,2,3,4,5,6,7,8,9,10,11,12],[],[(13,false),(14,false),(15,false)],[]⟩)]),
 (232,[(5,⟨[0,1,2,3,4,5,6,7,8,9,10],[],[],[]⟩),(11,⟨[0,1,2,3,4,5,6,7,8,9,10,11,12,13,14],[],[(15,false),(16,false),(17,false)],[]⟩),(17,⟨[0,1,2,3,4,5,6,7,8,9,10,11],[],[],[]⟩),(23,⟨[0,1,2,3,4,5,6,7,8,9,10,11,12,13,14],[],[(15,false),(16,false),(17,false)],[]⟩),(35,⟨[0,1,2,3,4,5,6,7,8,9,10,11,12,13],[],[],[]⟩)]),
 (233,[(4,⟨[0,1,2,3,4,5,6,7,8,9,10,11,12,13,14,15,16],[],[],[]⟩),(6,⟨[0,1,2,3,4,5,6,7,8,9,10,11,12,13,14],[],[(15,false),(16,false),(17,false)],[]⟩)]),
 (234,[(5,⟨[0,1,2,3,4,5,6,7,8,9,10],[],[],[]⟩),(11,⟨[0,1,2,3,4,5,6,7,8,9,10,11,12,13,14],[],[(15,false),(16,false),(17,false)],[]⟩),(17,⟨[0,1,2,3,4,5,6,7,8,9,10,11],[],[],[]⟩),(23,⟨[0,1,2,3,4,5,6,7,8,9,10,11,12,13,14],[],[(15,false),(16,false),(17,false)],[]⟩),(35,⟨[0,1,2,3,4,5,6,7,8,9,10,11,12,13],[],[],[]⟩)]),
 (237,[(3,⟨[0,1,2,3,4,5,6,7,8,9,10,11,12,13,14,15,16,17,18,19,20,21],[],[],[]⟩),(5,⟨[0,1,2,3,4,5,6,7,8,9,10,11,12,13,14,15],[],[],[]⟩),(6,⟨[0,1,2,3,4,5,6,7,8,9,10,11,12,13,14,15,16,17,18,19,20],[],[(21,false),(22,false),(23,false)],[]⟩)]),
 (242,[(1,⟨[0,1,2,3,4,5,6,7,8,9,10],[],[],[]⟩)]),
 (243,[(3,⟨[0,1,2,3,4,5,6,7,8,9,10,11,12,13,14,15,16,17,18,19,20],[],[(21,false),(22,false),(23,false)],[]⟩)]),
 (244,[(3,⟨[0,1,2,3,4,5,6,7,8,9,10,11,12,13,14,15,16,17,18,19,20],[],[(21,false),(22,false),(23,false)],[]⟩)])
]
def plF (f r:Nat):Option gQ:=match aw plL f with|some l=>aw l r|none=>none
def fnB (f : Nat)(fn : Func) : Bool := (!(fn.name == "runtime.NumGoroutine")) && (match fn.body with | some b => fF (plF f) b | none => true)
def US:List (Nat × Func)->Bool|[]=>true|(f,fn)::r=>fnB f fn&&US r
theorem kC {l m:List (Nat × Func)}(h:US l=true)(hm:US m=true):US (l++m)=true:=by
 induction l with
 |nil=>exact hm
 |cons x r ih=>simp only[List.cons_append,US,af]at h ⊢;exact⟨h.1,ih h.2⟩
theorem aMk:US aLK=true:=by decide +kernel
theorem aNV:US aNa=true:=by decide +kernel
theorem aMH:US aLI=true:=by decide +kernel
theorem aNQ:US aNC=true:=by decide +kernel
theorem aM6:US aLu=true:=by decide +kernel
theorem aMO:US aMx=true:=by decide +kernel
theorem aLC:US aLo=true:=by decide +kernel
theorem aNc:US aMj=true:=by decide +kernel
theorem aLn:US aLH=true:=by decide +kernel
theorem aLL:US ftL=true:=kC aMk (kC aNV (kC aMH (kC aNQ (kC aM6 (kC aMO (kC aLC (kC aNc aLn)))))))
end Go.Aw
end
