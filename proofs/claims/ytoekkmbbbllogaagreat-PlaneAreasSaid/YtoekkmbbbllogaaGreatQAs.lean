/-
  Parts of a proof. No condition.
-/
import Derived.Test.YtoekkmbbbllogaaGreatQAm
import Derived.Test.YtoekkmbbbllogaaGreatRows
set_option linter.unusedSimpArgs false
set_option linter.unusedVariables false
noncomputable section
namespace Go.Aw
def tyT:Tab:=[
 (24,⟨.st [(0,3),(1,3)],2,16,.agg #[.int .i64 0,.int .i64 0]⟩),
 (3,⟨.int .i64,1,8,.int .i64 0⟩),
 (57,⟨.st [(0,24),(2,24)],4,32,.agg #[.int .i64 0,.int .i64 0,.int .i64 0,.int .i64 0]⟩),
 (22,⟨.sl 24,1,24,.slice none 0 0⟩),
 (59,⟨.sl 3,1,24,.slice none 0 0⟩),
 (41,⟨.sl 57,1,24,.slice none 0 0⟩),
 (89,⟨.st [(0,86),(2,3)],3,24,.agg #[.int .i64 0,.int .i64 0,.int .i64 0]⟩),
 (86,⟨.st [(0,3),(1,3)],2,16,.agg #[.int .i64 0,.int .i64 0]⟩),
 (66,⟨.st [(0,3),(1,3)],2,16,.agg #[.int .i64 0,.int .i64 0]⟩),
 (85,⟨.sl 89,1,24,.slice none 0 0⟩),
 (5,⟨.int .u8,1,1,.int .u8 0⟩),
 (138,⟨.sl 22,1,24,.slice none 0 0⟩),
 (42,⟨.sl 61,1,24,.slice none 0 0⟩),
 (4,⟨.bool,1,1,.bool false⟩),
 (32,⟨.st [(0,24),(2,24),(4,24)],6,48,.agg #[.int .i64 0,.int .i64 0,.int .i64 0,.int .i64 0,.int .i64 0,.int .i64 0]⟩),
 (9,⟨.str,1,16,.string ⟨#[]⟩⟩),
 (26,⟨.sl 32,1,24,.slice none 0 0⟩),
 (153,⟨.int .u64,1,8,.int .u64 0⟩),
 (131,⟨.int .u64,1,8,.int .u64 0⟩),
 (2,⟨.int .i64,1,8,.int .i64 0⟩),
 (6,⟨.int .u8,1,1,.int .u8 0⟩),
 (8,⟨.st [(0,2),(1,3),(2,4),(3,6)],4,24,.agg #[.int .i64 0,.int .i64 0,.bool false,.int .u8 0]⟩),
 (10,⟨.str,1,16,.string ⟨#[]⟩⟩),
 (11,⟨.str,1,16,.string ⟨#[]⟩⟩),
 (15,⟨.ptr 193,1,8,.pointer none⟩),
 (16,⟨.ptr 196,1,8,.pointer none⟩),
 (17,⟨.ptr 205,1,8,.pointer none⟩),
 (27,⟨.int .i64,1,8,.int .i64 0⟩),
 (61,⟨.st [(0,3),(1,3),(2,59)],3,40,.agg #[.int .i64 0,.int .i64 0,.slice none 0 0]⟩),
 (77,⟨.mp 24 4,1,8,.map none⟩),
 (121,⟨.sc,1,8,.nilFunc⟩),
 (82,⟨.sc,1,8,.nilFunc⟩),
 (112,⟨.sc,1,8,.nilFunc⟩),
 (107,⟨.sc,1,8,.nilFunc⟩),
 (79,⟨.mpk 80 3,1,8,.map none⟩),
 (80,⟨.ar 2 24,4,32,.agg #[.int .i64 0,.int .i64 0,.int .i64 0,.int .i64 0]⟩),
 (118,⟨.sc,1,8,.nilFunc⟩),
 (83,⟨.sc,1,8,.nilFunc⟩),
 (92,⟨.sc,1,8,.nilFunc⟩),
 (95,⟨.st [(0,3),(1,3)],2,16,.agg #[.int .i64 0,.int .i64 0]⟩),
 (140,⟨.sc,1,8,.nilFunc⟩),
 (128,⟨.sc,1,8,.nilFunc⟩),
 (144,⟨.int .i64,1,8,.int .i64 0⟩),
 (151,⟨.int .u32,1,4,.int .u32 0⟩),
 (177,⟨.ptr 3,1,8,.pointer none⟩),
 (185,⟨.ptr 173,1,8,.pointer none⟩),
 (199,⟨.int .u8,1,1,.int .u8 0⟩),
 (1,⟨.sc,1,8,.nilFunc⟩),
 (7,⟨.st [(0,2),(1,3),(2,4),(3,6)],4,24,.agg #[.int .i64 0,.int .i64 0,.bool false,.int .u8 0]⟩),
 (12,⟨.int .u64,1,8,.int .u64 0⟩),
 (20,⟨.sc,1,16,.nilIface⟩),
 (21,⟨.int .i32,1,4,.int .i32 0⟩),
 (23,⟨.st [(0,3),(1,3)],2,16,.agg #[.int .i64 0,.int .i64 0]⟩),
 (25,⟨.sc,1,8,.nilFunc⟩),
 (29,⟨.sc,1,8,.nilFunc⟩),
 (30,⟨.sc,1,8,.nilFunc⟩),
 (31,⟨.st [(0,24),(2,24),(4,24)],6,48,.agg #[.int .i64 0,.int .i64 0,.int .i64 0,.int .i64 0,.int .i64 0,.int .i64 0]⟩),
 (33,⟨.sc,1,8,.nilFunc⟩),
 (34,⟨.sc,1,8,.nilFunc⟩),
 (35,⟨.sc,1,8,.nilFunc⟩),
 (37,⟨.sc,1,8,.nilFunc⟩),
 (38,⟨.sc,1,8,.nilFunc⟩),
 (39,⟨.sc,1,8,.nilFunc⟩),
 (40,⟨.sc,1,8,.nilFunc⟩),
 (43,⟨.sc,1,8,.nilFunc⟩),
 (45,⟨.sc,1,8,.nilFunc⟩),
 (46,⟨.sc,1,8,.nilFunc⟩),
 (47,⟨.sc,1,8,.nilFunc⟩),
 (49,⟨.sc,1,8,.nilFunc⟩),
 (51,⟨.sc,1,8,.nilFunc⟩),
 (52,⟨.sc,1,8,.nilFunc⟩),
 (53,⟨.sc,1,8,.nilFunc⟩),
 (55,⟨.sc,1,8,.nilFunc⟩),
 (56,⟨.st [(0,24),(2,24)],4,32,.agg #[.int .i64 0,.int .i64 0,.int .i64 0,.int .i64 0]⟩),
 (58,⟨.sc,1,8,.nilFunc⟩),
 (60,⟨.st [(0,3),(1,3),(2,59)],3,40,.agg #[.int .i64 0,.int .i64 0,.slice none 0 0]⟩),
 (62,⟨.sc,1,8,.nilFunc⟩),
 (63,⟨.sc,1,8,.nilFunc⟩),
 (64,⟨.sc,1,8,.nilFunc⟩),
 (65,⟨.st [(0,3),(1,3)],2,16,.agg #[.int .i64 0,.int .i64 0]⟩),
 (68,⟨.sc,1,8,.nilFunc⟩),
 (70,⟨.sc,1,8,.nilFunc⟩),
 (71,⟨.sc,1,8,.nilFunc⟩),
 (72,⟨.sc,1,8,.nilFunc⟩),
 (73,⟨.sc,1,8,.nilFunc⟩),
 (74,⟨.sc,1,8,.nilFunc⟩),
 (75,⟨.sc,1,8,.nilFunc⟩),
 (76,⟨.sc,1,8,.nilFunc⟩),
 (78,⟨.sc,1,8,.nilFunc⟩),
 (81,⟨.sc,1,8,.nilFunc⟩),
 (84,⟨.sc,1,8,.nilFunc⟩),
 (87,⟨.sc,1,8,.nilFunc⟩),
 (88,⟨.st [(0,86),(2,3)],3,24,.agg #[.int .i64 0,.int .i64 0,.int .i64 0]⟩),
 (90,⟨.sc,1,8,.nilFunc⟩),
 (91,⟨.sc,1,8,.nilFunc⟩),
 (93,⟨.sc,1,8,.nilFunc⟩),
 (94,⟨.sc,1,8,.nilFunc⟩),
 (96,⟨.sc,1,8,.nilFunc⟩),
 (97,⟨.sc,1,8,.nilFunc⟩),
 (98,⟨.sc,1,8,.nilFunc⟩),
 (99,⟨.sc,1,8,.nilFunc⟩),
 (100,⟨.sc,1,8,.nilFunc⟩),
 (101,⟨.sc,1,8,.nilFunc⟩),
 (102,⟨.sc,1,8,.nilFunc⟩),
 (103,⟨.sc,1,8,.nilFunc⟩),
 (104,⟨.sc,1,8,.nilFunc⟩),
 (105,⟨.sc,1,8,.nilFunc⟩),
 (106,⟨.sc,1,8,.nilFunc⟩),
 (108,⟨.sc,1,8,.nilFunc⟩),
 (109,⟨.sc,1,8,.nilFunc⟩),
 (110,⟨.sc,1,8,.nilFunc⟩),
 (111,⟨.sc,1,8,.nilFunc⟩),
 (114,⟨.sc,1,8,.nilFunc⟩),
 (115,⟨.sc,1,8,.nilFunc⟩),
 (116,⟨.sc,1,8,.nilFunc⟩),
 (117,⟨.sc,1,8,.nilFunc⟩),
 (119,⟨.sc,1,8,.nilFunc⟩),
 (120,⟨.sc,1,8,.nilFunc⟩),
 (122,⟨.sc,1,8,.nilFunc⟩),
 (123,⟨.sc,1,8,.nilFunc⟩),
 (124,⟨.sc,1,8,.nilFunc⟩),
 (125,⟨.sc,1,8,.nilFunc⟩),
 (126,⟨.sc,1,8,.nilFunc⟩),
 (127,⟨.ar 3 5,3,3,.agg #[.int .u8 0,.int .u8 0,.int .u8 0]⟩),
 (129,⟨.sc,1,8,.nilFunc⟩),
 (130,⟨.sc,1,8,.nilFunc⟩),
 (132,⟨.sc,1,8,.nilFunc⟩),
 (133,⟨.sc,1,8,.nilFunc⟩),
 (134,⟨.sc,1,8,.nilFunc⟩),
 (135,⟨.sc,1,8,.nilFunc⟩),
 (136,⟨.sc,1,8,.nilFunc⟩),
 (137,⟨.sc,1,8,.nilFunc⟩),
 (139,⟨.sc,1,8,.nilFunc⟩),
 (141,⟨.sc,1,8,.nilFunc⟩),
 (142,⟨.sc,1,8,.nilFunc⟩),
 (143,⟨.sc,1,8,.nilFunc⟩),
 (146,⟨.sc,1,8,.nilFunc⟩),
 (147,⟨.sc,1,8,.nilFunc⟩),
 (148,⟨.sc,1,8,.nilFunc⟩),
 (149,⟨.sc,1,8,.nilFunc⟩),
 (150,⟨.sc,1,8,.nilFunc⟩),
 (152,⟨.sc,1,8,.nilFunc⟩),
 (154,⟨.sc,1,8,.nilFunc⟩),
 (155,⟨.sc,1,8,.nilFunc⟩),
 (156,⟨.sc,1,8,.nilFunc⟩),
 (157,⟨.sc,1,8,.nilFunc⟩),
 (158,⟨.sc,1,8,.nilFunc⟩),
 (159,⟨.sc,1,8,.nilFunc⟩),
 (160,⟨.sc,1,8,.nilFunc⟩),
 (161,⟨.sc,1,8,.nilFunc⟩),
 (162,⟨.sc,1,8,.nilFunc⟩),
 (163,⟨.sc,1,8,.nilFunc⟩),
 (164,⟨.sc,1,8,.nilFunc⟩),
 (165,⟨.sc,1,8,.nilFunc⟩),
 (166,⟨.sc,1,8,.nilFunc⟩),
 (167,⟨.sc,1,8,.nilFunc⟩),
 (168,⟨.sc,1,8,.nilFunc⟩),
 (169,⟨.sc,1,8,.nilFunc⟩),
 (170,⟨.sc,1,8,.nilFunc⟩),
 (171,⟨.sc,1,8,.nilFunc⟩),
 (172,⟨.sc,1,8,.nilFunc⟩),
 (173,⟨.int .u64,1,8,.int .u64 0⟩),
 (174,⟨.sc,1,8,.nilFunc⟩),
 (175,⟨.sc,1,8,.nilFunc⟩),
 (176,⟨.sc,1,8,.nilFunc⟩),
 (178,⟨.sc,1,8,.nilFunc⟩),
 (179,⟨.sc,1,8,.nilFunc⟩),
 (180,⟨.sc,1,8,.nilFunc⟩),
 (181,⟨.sc,1,8,.nilFunc⟩),
 (182,⟨.sc,1,8,.nilFunc⟩),
 (183,⟨.sc,1,8,.nilFunc⟩),
 (184,⟨.sc,1,8,.nilFunc⟩),
 (186,⟨.sc,1,8,.nilFunc⟩),
 (187,⟨.sc,1,8,.nilFunc⟩),
 (188,⟨.sc,1,8,.nilFunc⟩),
 (189,⟨.sc,1,8,.nilFunc⟩),
 (190,⟨.sc,1,8,.nilFunc⟩),
 (191,⟨.sc,1,8,.nilFunc⟩),
 (197,⟨.sc,1,8,.nilFunc⟩),
 (198,⟨.int .u8,1,1,.int .u8 0⟩),
 (200,⟨.sc,1,8,.nilFunc⟩),
 (201,⟨.ptr 5,1,8,.pointer none⟩),
 (202,⟨.int .i32,1,4,.int .i32 0⟩),
 (203,⟨.int .i32,1,4,.int .i32 0⟩),
 (206,⟨.sc,1,8,.pointer none⟩)
]
theorem tyT_b0:tabB0 Go.Proofs.Tryz.prog tyT=true:=by decide +kernel
section
variable {P:Program}{t3 tp k:TypeId}
theorem TyOK.cells {t:TypeId}{i:TyI}(h:TyOK P t i):P.cellsOf t=i.size:=by
 obtain⟨x,hx,h1,_⟩:=h.info
 simp [Program.cellsOf,hx,h1]
theorem lits_int {z:Value}(h3:TyOK P t3 ⟨.int .i64,1,8,z⟩){d:Nat}{a:Int}(ha:std.fits .i64 a=true):P.keyLits (d+1) t3 [.int .i64 a]=some [.int .i64 a]:=by
 have ha:fitsK .i64 a=true:=ha
 have hw:(Lit.int .i64 a).wf=true:=by
  simp only [fitsK,Bool.and_eq_true,decide_eq_true_eq] at ha
  simp only [Lit.wf,Bool.and_eq_true,decide_eq_true_eq]
  have h1:IntKind.i64.min = -9223372036854775808:=by decide
  have h2:IntKind.i64.max=9223372036854775807:=by decide
  omega
 have hu:P.underlying t3=some (.int .i64):=h3.int rfl
 simp [Program.keyLits,hu,hw]
theorem lits_two {α:Type}{F:Field→Option (List α)}{x y:Field}{u v:List α}(h1:F x=some u)(h2:F y=some v):([x,y].mapM F).map List.flatten=some (u++v):=by
 simp [h1,h2]
theorem lits_twoN {α:Type}{F:Nat→Option (List α)}{x y:Nat}{u v:List α}(h1:F x=some u)(h2:F y=some v):([x,y].mapM F).map List.flatten=some (u++v):=by
 simp [h1,h2]
theorem lits_st2 {ta tb:TypeId}{z:Value}{m n:Nat}(hp:TyOK P tp ⟨.st [(0,ta),(m,tb)],m+n,8*(m+n),z⟩)(ha:P.cellsOf ta=m)(hb:P.cellsOf tb=n){d:Nat}{us vs:List Value}{u v:List Lit}(hu:us.length=m)(hv:vs.length=n)
  (h1:P.keyLits d ta us=some u) (h2:P.keyLits d tb vs=some v):P.keyLits (d+1) tp (us++vs)=some (u++v):=by
 obtain⟨f,hd,hfs,hn⟩:=hp.st rfl
 have hc:P.cellsOf tp=m+n:=hp.cells
 have hall : f.all (fun x => x.name != "_") = true := by
  rw [Array.all_eq_true']
  intro x hx
  have:=hn x (by simpa using hx)
  simpa using this
 have hlen:f.toList.length=2:=by have:=congrArg List.length hfs;simpa using this
 unfold Program.keyLits
 simp only [hd,hc,List.length_append,hu,hv,hall,and_self,if_true]
 match hf:f.toList,hlen with
 |[x,y],_ =>
  rw [hf] at hfs
  simp only [List.map_cons,List.map_nil,List.cons.injEq,Prod.mk.injEq,and_true] at hfs
  obtain⟨⟨e1,e2⟩,e3,e4⟩:=hfs
  refine lits_two (u:=u) (v:=v) ?_ ?_
  ·show P.keyLits d x.type (((us++vs).drop x.offset).take (P.cellsOf x.type))=some u
   rw [e1,e2,ha,List.drop_zero,← hu,List.take_left' rfl]
   exact h1
  ·show P.keyLits d y.type (((us++vs).drop y.offset).take (P.cellsOf y.type))=some v
   rw [e3,e4,hb,← hu,List.drop_left,← hv,List.take_length]
   exact h2
theorem lits_ar2 {ta:TypeId}{z:Value}{m:Nat}(hp:TyOK P tp ⟨.ar 2 ta,m+m,8*(m+m),z⟩)(ha:P.cellsOf ta=m){d:Nat}{us vs:List Value}{u v:List Lit}(hu:us.length=m)(hv:vs.length=m)
  (h1:P.keyLits d ta us=some u) (h2:P.keyLits d ta vs=some v):P.keyLits (d+1) tp (us++vs)=some (u++v):=by
 have hd:=hp.ar rfl
 have hc:P.cellsOf tp=m+m:=hp.cells
 unfold Program.keyLits
 simp only [hd,hc,ha,List.length_append,hu,hv,if_true]
 have e1:P.keyLits d ta ((us++vs).drop (0*m) |>.take m)=some u:=by rw [Nat.zero_mul,List.drop_zero,← hu,List.take_left' rfl];exact h1
 have e2:P.keyLits d ta ((us++vs).drop (1*m) |>.take m)=some v:=by rw [Nat.one_mul,← hu,List.drop_left,hu,← hv,List.take_length];exact h2
 rw [show List.range 2=[0,1] from rfl]
 exact lits_twoN e1 e2
theorem key_four {cs:Array Value}(hs:cs.size=4)(hk:keyB std cs.toList=true):∃ a b c d:Int,cs.toList=[.int .i64 a,.int .i64 b]++[.int .i64 c,.int .i64 d]∧std.fits .i64 a=true∧std.fits .i64 b=true∧std.fits .i64 c=true∧std.fits .i64 d=true:=by
 have one:∀ {v:Value} {r:List Value},keyB std (v::r)=true→∃ n:Int,v=.int .i64 n∧std.fits .i64 n=true∧keyB std r=true:=by
  intro v r h
  unfold keyB at h
  split at h
  ·rename_i heq;cases heq
  ·rename_i n r' heq
   injection heq with h1 h2
   subst h1 h2
   have h:(std.fits .i64 n&&keyB std r)=true:=h
   rw [Bool.and_eq_true] at h
   exact⟨n,rfl,h.1,h.2⟩
  ·cases h
 match hl:cs.toList,(show cs.toList.length=4 by simpa using hs) with
 |[x,y,z,w],_ =>
  rw [hl] at hk
  obtain⟨a,rfl,ha,hk⟩:=one hk
  obtain⟨b,rfl,hb,hk⟩:=one hk
  obtain⟨c,rfl,hc,hk⟩:=one hk
  obtain⟨d,rfl,hd,hk⟩:=one hk
  exact⟨a,b,c,d,rfl,ha,hb,hc,hd⟩
theorem law_st {z3 zp zk:Value}(hl:laidOutB P=true)(hsmall:P.types.size+2≤10000)(hbig:3≤P.types.size)(hrow:k<P.types.size)(hkt:P.keyType k=true)
  (h3:TyOK P t3 ⟨.int .i64,1,8,z3⟩) (hp:TyOK P tp ⟨.st [(0,t3),(1,t3)],2,16,zp⟩)
  (hk:TyOK P k ⟨.st [(0,tp),(2,tp)],4,32,zk⟩∨TyOK P k ⟨.ar 2 tp,4,32,zk⟩):LawOK P k:=by
 have hund:∃ x,P.underlying k=some x∧((∃ a b,x=.array a b)∨∃ f,x=.struct f):=by
  rcases hk with hk|hk
  ·obtain⟨f,hd,_⟩:=hk.st rfl
   exact⟨_,hd,.inr ⟨f,rfl⟩⟩
  ·exact⟨_,hk.ar rfl,.inl ⟨_,_,rfl⟩⟩
 have hc:P.cellsOf k=4:=by rcases hk with hk|hk <;> exact hk.cells
 obtain⟨x,hx,hxs⟩:=hund
 refine⟨deep_law_gate hl hsmall hrow hkt (by rw [hx];rcases hxs with ⟨a,b,rfl⟩|⟨f,rfl⟩ <;> rfl),fun cs hs hkb=>?_⟩
 rw [hc] at hs
 obtain⟨a,b,c,d,hcs,ha,hb,hcc,hd⟩:=key_four hs hkb
 have hlit:P.keyLits (P.types.size+1) k cs.toList=some ([.int .i64 a,.int .i64 b]++[.int .i64 c,.int .i64 d]):=by
  rw [hcs,show P.types.size+1=(P.types.size - 2)+1+1+1 by omega]
  have g1:P.keyLits (P.types.size - 2+1+1) tp [.int .i64 a,.int .i64 b]=some [.int .i64 a,.int .i64 b]:=lits_st2 (m:=1) (n:=1) hp h3.cells h3.cells (us:=[.int .i64 a]) (vs:=[.int .i64 b]) rfl rfl (lits_int h3 ha) (lits_int h3 hb)
  have g2:P.keyLits (P.types.size - 2+1+1) tp [.int .i64 c,.int .i64 d]=some [.int .i64 c,.int .i64 d]:=lits_st2 (m:=1) (n:=1) hp h3.cells h3.cells (us:=[.int .i64 c]) (vs:=[.int .i64 d]) rfl rfl (lits_int h3 hcc) (lits_int h3 hd)
  rcases hk with hk|hk
  ·exact lits_st2 (m:=2) (n:=2) hk hp.cells hp.cells rfl rfl g1 g2
  ·exact lits_ar2 (m:=2) hk hp.cells rfl rfl g1 g2
 have hform:(Value.agg cs).formed P k=true:=by
  unfold Value.formed
  simp only [hx]
  rcases hxs with ⟨a,b,rfl⟩|⟨f,rfl⟩ <;> simp [hs,hc]
 unfold keyOf
 rw [hx]
 rcases hxs with ⟨a,b,rfl⟩|⟨f,rfl⟩ <;> simp [hkt,hform,Value.cells,hlit]
end
def mpks:Tab→List TypeId
 |[]=>[]
 |(_,i)::r=>(match i.kind with|.mpk k _=>k::mpks r|_=>mpks r)
theorem mpks_mem:∀ {T:Tab} {t:TypeId} {i:TyI} {k e:TypeId},(t,i)∈T→i.kind=.mpk k e→k∈mpks T
 |(u,j)::r,t,i,k,e,hm,hk=>by
  unfold mpks
  rcases List.mem_cons.1 hm with h|h
  ·cases h
   rw [hk]
   exact .head _
  ·have:=mpks_mem h hk
   split
   ·exact .tail _ this
   ·exact this
theorem tyB0_look {P:Program}:∀ {T:Tab},tabB0 P T=true→∀ {t i},look T t=some i→tyB0 P t i=true:=by
 intro T
 induction T with
 |nil=>intro _ t i h;cases h
 |cons p r ih =>
  obtain⟨u,j⟩:=p
  intro hb t i h
  simp only [tabB0,Bool.and_eq_true] at hb
  simp only [look_cons] at h
  split at h
  ·rename_i hu
   have:=beq_true hu
   subst this
   injection h with h
   subst h
   exact hb.1
  ·exact ih hb.2 h
theorem tyT_at {t:TypeId}{i:TyI}(h:look tyT t=some i)(hn:noK i.kind=true):TyOK Go.Proofs.Tryz.prog t i:=by
 refine tyB0_ok (tyB0_look tyT_b0 h) fun k e hk=>?_
 rw [hk] at hn
 cases hn
set_option maxRecDepth 100000 in
theorem prog_laid:laidOutB Go.Proofs.Tryz.prog=true:=by decide +kernel
set_option maxRecDepth 100000 in
theorem prog_small:Go.Proofs.Tryz.prog.types.size+2≤10000:=by decide +kernel
theorem prog_big:100≤Go.Proofs.Tryz.prog.types.size:=by decide +kernel
theorem key80:Go.Proofs.Tryz.prog.keyType 80=true:=by decide +kernel
theorem tyT_tab:TabOK Go.Proofs.Tryz.prog tyT:=by
 refine tabB0_ok tyT_b0 fun t i k e hm hk=>?_
 have h:=mpks_mem hm hk
 have e:mpks tyT=[80]:=rfl
 rw [e] at h
 have hb:=prog_big
 have h3:TyOK Go.Proofs.Tryz.prog 3 _:=tyT_at (i:=⟨.int .i64,1,8,.int .i64 0⟩) rfl rfl
 have hp:TyOK Go.Proofs.Tryz.prog 24 _:=tyT_at (i:=⟨.st [(0,3),(1,3)],2,16,.agg #[.int .i64 0,.int .i64 0]⟩) rfl rfl
 simp only [List.mem_cons,List.not_mem_nil,or_false] at h
 subst h
 exact law_st prog_laid prog_small (Nat.le_trans (by decide) hb) (Nat.lt_of_lt_of_le (by decide) hb) key80 h3 hp (.inr (tyT_at (i:=⟨.ar 2 24,4,32,.agg #[.int .i64 0,.int .i64 0,.int .i64 0,.int .i64 0]⟩) rfl rfl))
end Go.Aw
end
