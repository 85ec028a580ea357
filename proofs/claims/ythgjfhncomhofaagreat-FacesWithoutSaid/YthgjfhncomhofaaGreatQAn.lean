/-
  Parts of a proof. No condition.
-/
import Derived.Test.YthgjfhncomhofaaGreatQAm
set_option linter.unusedSimpArgs false
set_option linter.unusedVariables false
noncomputable section
namespace Go.Aw
open Proofs
set_option maxRecDepth 100000
def rZ (nP nE:Nat)(c1 c2:Nat)(F:Int)(all out face:Value):List Value:=[ak 0 nP c1,ak 1 nE c2,iv F,all,out,face]
def aI:Value:=.slice none 0 0
def oM (l:List Pt)(m:List Ed)(c1 c2:Nat)(n:Int):Heap :=
 (5,aq 1 (rep l.length [aI]))::(3,aq 1 [ao 4])::(4,aq 1 (rZ l.length m.length c1 c2 n aI (ak 5 l.length l.length) aI)) ::
 (2,dU l.length m.length c1 c2 n)::aS aX bS l m
theorem W1 (n:Nat):dT (rep n [.slice none 0 0])=true:=by
 induction n with
 |zero=>rfl
 |succ n ih=>exact ih
def O9:List (Nat × Value):=[(1,ao 2),(3,ao 3)]
def CK (nP nE:Nat)(c1 c2:Nat)(F:Int)(all out face:Value):Value:=.agg #[ak 0 nP c1,ak 1 nE c2,iv F,all,out,face]
def aLY (id:Nat)(c:Code):Option (Array Oper) :=
 @Code.rec (fun _=>Option (Array Oper)) none (fun i ops _=>match Nat.beq i id with|true=>some ops|false=>none) (fun _ _ a b=>match a with|some x=>some x|none=>b)
  (fun _ _ _ a b=>match a with|some x=>some x|none=>b) (fun _ _ a=>a) (fun _ a=>a) (fun _ _ _ _ a b=>match a with|some x=>some x|none=>b) (fun _=>none) (fun _ a=>a) (fun _=>none) (fun _=>none) none (fun _=>none) c
def xM:Array Oper:=match Tryz.f125.body with|some c=>(match aLY 1 c with|some o=>o|none=>#[])|none=>#[]
def aNF:VC:=CX (aw [(121,OE (zX 1000))])
def aLz (l:List Pt)(m:List Ed)(n:Int)(c1 c2:Nat):KS:=fun e h nx=>e=O9/\h=oM l m c1 c2 n/\nx=6
def vst (A:Ar)(T:dN)(C:VC)(Y:VY)(tn:Nat)(ops:List Oper)(j:Nat)(e:List (Nat × Value))(h:Heap)(nx:Nat)(K:KS):Prop:=match hH ops j with|some o=>tJ A T C Y tn ops o e h nx K|none=>False
section
variable {A:Ar}{T:dN}{C:VC}{Y:VY}{tn:Nat}{ops:List Oper}{K:KS}{n:Nat}{done:List Nat}{e:List (Nat × Value)}{h:Heap}{nx:Nat}
theorem aHQ {i:Nat}(hr:gO ops done ops 0=[i])(h1:vst A T C Y tn ops i e h nx (fun e' h' nx'=>oG A T C Y tn ops K n (x7 i done) (eG e') h' nx')):oG A T C Y tn ops K (n+1) done e h nx:=by
 unfold oG;rw[hr];exact h1
theorem aJz {i j:Nat}(hr:gO ops done ops 0=[i,j])(h1:vst A T C Y tn ops i e h nx (fun e' h' nx'=>oG A T C Y tn ops K n (x7 i done) (eG e') h' nx'))(h2:vst A T C Y tn ops j e h nx (fun e' h' nx'=>oG A T C Y tn ops K n (x7 j done) (eG e') h' nx')):oG A T C Y tn ops K (n+1) done e h nx:=by
 unfold oG;rw[hr];exact⟨h1,h2⟩
theorem aJA {i j k:Nat}(hr:gO ops done ops 0=[i,j,k])(h1:vst A T C Y tn ops i e h nx (fun e' h' nx'=>oG A T C Y tn ops K n (x7 i done) (eG e') h' nx'))(h2:vst A T C Y tn ops j e h nx (fun e' h' nx'=>oG A T C Y tn ops K n (x7 j done) (eG e') h' nx'))
  (h3:vst A T C Y tn ops k e h nx (fun e' h' nx'=>oG A T C Y tn ops K n (x7 k done) (eG e') h' nx')):oG A T C Y tn ops K (n+1) done e h nx:=by
 unfold oG;rw[hr];exact⟨h1,h2,h3⟩
end
abbrev fN (j:Nat)(e:List (Nat × Value))(h:Heap)(nx:Nat)(K:KS):Prop:=vst aB.A aB.T aNF noY Tryz.f125.ntmps xM.toList j e h nx K
structure iO (l:List Pt) (m:List Ed) (n:Int) (c1 c2:Nat) (k:Nat) (done:List Nat) (e:List (Nat × Value)) (h:Heap) (nx:Nat):Prop where
 h:oG aB.A aB.T aNF noY Tryz.f125.ntmps xM.toList (sW 2 (aLz l m n c1 c2)) k done e h nx
section
variable {l:List Pt}{m:List Ed}{n:Int}{c1 c2 k:Nat}{done:List Nat}{e e1 e2 e3:List (Nat × Value)}{h h1 h2 h3:Heap}{nx nx1 nx2 nx3 i i2 i3:Nat}
abbrev O3 (i:Nat)(e:List (Nat × Value))(h:Heap)(nx:Nat)(e1:List (Nat × Value))(h1:Heap)(nx1:Nat):Prop:=∀ K:KS,K e1 h1 nx1->fN i e h nx (fun e' h' nx'=>K (eG e') h' nx')
theorem mT (hr:gO xM.toList done xM.toList 0=[i])(s1:O3 i e h nx e1 h1 nx1)(d1:iO l m n c1 c2 k (x7 i done) e1 h1 nx1):iO l m n c1 c2 (k+1) done e h nx:=⟨aHQ hr (s1 _ d1.h)⟩
theorem qN (hr:gO xM.toList done xM.toList 0=[i,i2])(s1:O3 i e h nx e1 h1 nx1)(d1:iO l m n c1 c2 k (x7 i done) e1 h1 nx1)(s2:O3 i2 e h nx e2 h2 nx2)(d2:iO l m n c1 c2 k (x7 i2 done) e2 h2 nx2):iO l m n c1 c2 (k+1) done e h nx:=⟨aJz hr (s1 _ d1.h) (s2 _ d2.h)⟩
theorem RK (hr:gO xM.toList done xM.toList 0=[i,i2,i3])(s1:O3 i e h nx e1 h1 nx1)(d1:iO l m n c1 c2 k (x7 i done) e1 h1 nx1)(s2:O3 i2 e h nx e2 h2 nx2)(d2:iO l m n c1 c2 k (x7 i2 done) e2 h2 nx2)(s3:O3 i3 e h nx e3 h3 nx3)(d3:iO l m n c1 c2 k (x7 i3 done) e3 h3 nx3):iO l m n c1 c2 (k+1) done e h nx:=⟨aJA hr (s1 _ d1.h) (s2 _ d2.h) (s3 _ d3.h)⟩
end
abbrev pQ (k:Nat):Value:=.pointer (some ⟨k,0,none⟩)
abbrev sQ (k N c:Nat):Value:=.slice (some ⟨k,0,none⟩) N c
abbrev mQ (l:List Pt)(m:List Ed)(n:Int)(c1 c2:Nat):Value:=fH l.length m.length c1 c2 n
abbrev hQ (l:List Pt)(m:List Ed)(n:Int)(c1 c2:Nat):Heap:=(2,dU l.length m.length c1 c2 n)::aS aX bS l m
theorem BM (l:List Pt)(m:List Ed)(n:Int)(c1 c2:Nat)(hl:l.length<=400):iO l m n c1 c2 0 [0,1,2,3,4,5,6,7,8] [(0,mQ l m n c1 c2),(1,pQ 2),(2,.pointer none),(3,pQ 5),(12,mQ l m n c1 c2),(13,pQ 2),(14,sQ 0 l.length c1),(15,iv l.length),(16,sQ 3 l.length l.length),(17,CK l.length m.length c1 c2 n aI (sQ 3 l.length l.length) aI),(18,pQ 4)] ((5,aq 1 [pQ 4])::(4,aq 1 (rZ l.length m.length c1 c2 n aI (sQ 3 l.length l.length) aI))::(3,aq 1 (rep l.length [aI]))::hQ l m n c1 c2) 6 :=
 ⟨I3 (e0:=O9) (h0:=oM l m c1 c2 n) (n0:=6) [(3,5),(4,4),(5,3)] ⟨rfl,rfl,rfl⟩ (ae.2 ⟨⟨rfl,⟨by decide,rfl⟩⟩,ae.2 ⟨⟨rfl,⟨by decide,rfl⟩⟩,fun _ h=>(by cases h)⟩⟩)
  (by
   unfold oM dU aS rZ aI;refine ae.2 ⟨⟨ab,_,rfl,aE (W1 _)⟩,?_⟩;exact xH)
  (by show ∀ k∈[5,3,4,2,0,1],∀ k'∈[5,3,4,2,0,1],_;decide) (by decide) (by decide)⟩
theorem wV (l:List Pt)(m:List Ed)(n:Int)(c1 c2:Nat)(hl:l.length<=400)(K:KS)(hk:K [(0,mQ l m n c1 c2),(1,pQ 2),(2,.pointer none),(3,pQ 5),(12,mQ l m n c1 c2),(13,pQ 2),(14,sQ 0 l.length c1),(15,iv l.length),(16,sQ 3 l.length l.length),(17,CK l.length m.length c1 c2 n aI (sQ 3 l.length l.length) aI),(18,pQ 4)] ((5,aq 1 [pQ 4])::(4,aq 1 (rZ l.length m.length c1 c2 n aI (sQ 3 l.length l.length) aI))::(3,aq 1 (rep l.length [aI]))::hQ l m n c1 c2) 6):fN 8 [(0,mQ l m n c1 c2),(1,pQ 2),(2,.pointer none),(3,pQ 5),(12,mQ l m n c1 c2),(13,pQ 2),(14,sQ 0 l.length c1),(15,iv l.length),(16,sQ 3 l.length l.length),(17,CK l.length m.length c1 c2 n aI (sQ 3 l.length l.length) aI),(18,pQ 4)] ((5,aq 1 [.pointer none])::(4,aq 1 (rZ l.length m.length c1 c2 n aI (sQ 3 l.length l.length) aI))::(3,aq 1 (rep l.length [aI]))::hQ l m n c1 c2) 6 (fun e' h' nx'=>K (eG e') h' nx'):=by
 conv=>whnf
 exact hk
theorem DE (l:List Pt)(m:List Ed)(n:Int)(c1 c2:Nat)(hl:l.length<=400):iO l m n c1 c2 1 [0,1,2,3,4,5,6,7] [(0,mQ l m n c1 c2),(1,pQ 2),(2,.pointer none),(3,pQ 5),(12,mQ l m n c1 c2),(13,pQ 2),(14,sQ 0 l.length c1),(15,iv l.length),(16,sQ 3 l.length l.length),(17,CK l.length m.length c1 c2 n aI (sQ 3 l.length l.length) aI),(18,pQ 4)] ((5,aq 1 [.pointer none])::(4,aq 1 (rZ l.length m.length c1 c2 n aI (sQ 3 l.length l.length) aI))::(3,aq 1 (rep l.length [aI]))::hQ l m n c1 c2) 6 :=
 mT (k:=0) (done:=[0,1,2,3,4,5,6,7]) rfl (wV l m n c1 c2 hl) (BM l m n c1 c2 hl)
theorem z7 (l:List Pt)(m:List Ed)(n:Int)(c1 c2:Nat)(hl:l.length<=400)(K:KS)(hk:K [(0,mQ l m n c1 c2),(1,pQ 2),(2,.pointer none),(3,pQ 5),(12,mQ l m n c1 c2),(13,pQ 2),(14,sQ 0 l.length c1),(15,iv l.length),(16,sQ 3 l.length l.length),(17,CK l.length m.length c1 c2 n aI (sQ 3 l.length l.length) aI),(18,pQ 4)] ((5,aq 1 [.pointer none])::(4,aq 1 (rZ l.length m.length c1 c2 n aI (sQ 3 l.length l.length) aI))::(3,aq 1 (rep l.length [aI]))::hQ l m n c1 c2) 6):fN 7 [(0,mQ l m n c1 c2),(1,pQ 2),(2,.pointer none),(12,mQ l m n c1 c2),(13,pQ 2),(14,sQ 0 l.length c1),(15,iv l.length),(16,sQ 3 l.length l.length),(17,CK l.length m.length c1 c2 n aI (sQ 3 l.length l.length) aI),(18,pQ 4)] ((4,aq 1 (rZ l.length m.length c1 c2 n aI (sQ 3 l.length l.length) aI))::(3,aq 1 (rep l.length [aI]))::hQ l m n c1 c2) 5 (fun e' h' nx'=>K (eG e') h' nx'):=by
 conv=>whnf
 exact hk
theorem FG (l:List Pt)(m:List Ed)(n:Int)(c1 c2:Nat)(hl:l.length<=400):iO l m n c1 c2 2 [0,1,2,3,4,5,6] [(0,mQ l m n c1 c2),(1,pQ 2),(2,.pointer none),(12,mQ l m n c1 c2),(13,pQ 2),(14,sQ 0 l.length c1),(15,iv l.length),(16,sQ 3 l.length l.length),(17,CK l.length m.length c1 c2 n aI (sQ 3 l.length l.length) aI),(18,pQ 4)] ((4,aq 1 (rZ l.length m.length c1 c2 n aI (sQ 3 l.length l.length) aI))::(3,aq 1 (rep l.length [aI]))::hQ l m n c1 c2) 5 :=
 mT (k:=1) (done:=[0,1,2,3,4,5,6]) rfl (z7 l m n c1 c2 hl) (DE l m n c1 c2 hl)
theorem AW (l:List Pt)(m:List Ed)(n:Int)(c1 c2:Nat)(hl:l.length<=400):iO l m n c1 c2 0 [0,1,2,3,4,5,6,7,8] [(0,mQ l m n c1 c2),(1,pQ 2),(2,.pointer none),(3,pQ 4),(12,mQ l m n c1 c2),(13,pQ 2),(14,sQ 0 l.length c1),(15,iv l.length),(16,sQ 3 l.length l.length),(17,CK l.length m.length c1 c2 n aI (sQ 3 l.length l.length) aI),(18,pQ 5)] ((5,aq 1 (rZ l.length m.length c1 c2 n aI (sQ 3 l.length l.length) aI))::(4,aq 1 [pQ 5])::(3,aq 1 (rep l.length [aI]))::hQ l m n c1 c2) 6 :=
 ⟨I3 (e0:=O9) (h0:=oM l m c1 c2 n) (n0:=6) [(3,4),(4,5),(5,3)] ⟨rfl,rfl,rfl⟩ (ae.2 ⟨⟨rfl,⟨by decide,rfl⟩⟩,ae.2 ⟨⟨rfl,⟨by decide,rfl⟩⟩,fun _ h=>(by cases h)⟩⟩)
  (by
   unfold oM dU aS rZ aI;refine ae.2 ⟨⟨ab,_,rfl,aE (W1 _)⟩,?_⟩;exact xH)
  (by show ∀ k∈[5,3,4,2,0,1],∀ k'∈[5,3,4,2,0,1],_;decide) (by decide) (by decide)⟩
theorem xY (l:List Pt)(m:List Ed)(n:Int)(c1 c2:Nat)(hl:l.length<=400)(K:KS)(hk:K [(0,mQ l m n c1 c2),(1,pQ 2),(2,.pointer none),(3,pQ 4),(12,mQ l m n c1 c2),(13,pQ 2),(14,sQ 0 l.length c1),(15,iv l.length),(16,sQ 3 l.length l.length),(17,CK l.length m.length c1 c2 n aI (sQ 3 l.length l.length) aI),(18,pQ 5)] ((5,aq 1 (rZ l.length m.length c1 c2 n aI (sQ 3 l.length l.length) aI))::(4,aq 1 [pQ 5])::(3,aq 1 (rep l.length [aI]))::hQ l m n c1 c2) 6):fN 8 [(0,mQ l m n c1 c2),(1,pQ 2),(2,.pointer none),(3,pQ 4),(12,mQ l m n c1 c2),(13,pQ 2),(14,sQ 0 l.length c1),(15,iv l.length),(16,sQ 3 l.length l.length),(17,CK l.length m.length c1 c2 n aI (sQ 3 l.length l.length) aI),(18,pQ 5)] ((5,aq 1 (rZ l.length m.length c1 c2 n aI (sQ 3 l.length l.length) aI))::(4,aq 1 [.pointer none])::(3,aq 1 (rep l.length [aI]))::hQ l m n c1 c2) 6 (fun e' h' nx'=>K (eG e') h' nx'):=by
 conv=>whnf
 exact hk
theorem D6 (l:List Pt)(m:List Ed)(n:Int)(c1 c2:Nat)(hl:l.length<=400):iO l m n c1 c2 1 [0,1,2,3,4,5,6,7] [(0,mQ l m n c1 c2),(1,pQ 2),(2,.pointer none),(3,pQ 4),(12,mQ l m n c1 c2),(13,pQ 2),(14,sQ 0 l.length c1),(15,iv l.length),(16,sQ 3 l.length l.length),(17,CK l.length m.length c1 c2 n aI (sQ 3 l.length l.length) aI),(18,pQ 5)] ((5,aq 1 (rZ l.length m.length c1 c2 n aI (sQ 3 l.length l.length) aI))::(4,aq 1 [.pointer none])::(3,aq 1 (rep l.length [aI]))::hQ l m n c1 c2) 6 :=
 mT (k:=0) (done:=[0,1,2,3,4,5,6,7]) rfl (xY l m n c1 c2 hl) (AW l m n c1 c2 hl)
theorem zV (l:List Pt)(m:List Ed)(n:Int)(c1 c2:Nat)(hl:l.length<=400)(K:KS)(hk:K [(0,mQ l m n c1 c2),(1,pQ 2),(2,.pointer none),(3,pQ 4),(12,mQ l m n c1 c2),(13,pQ 2),(14,sQ 0 l.length c1),(15,iv l.length),(16,sQ 3 l.length l.length),(17,CK l.length m.length c1 c2 n aI (sQ 3 l.length l.length) aI),(18,pQ 5)] ((5,aq 1 (rZ l.length m.length c1 c2 n aI (sQ 3 l.length l.length) aI))::(4,aq 1 [.pointer none])::(3,aq 1 (rep l.length [aI]))::hQ l m n c1 c2) 6):fN 6 [(0,mQ l m n c1 c2),(1,pQ 2),(2,.pointer none),(3,pQ 4),(12,mQ l m n c1 c2),(13,pQ 2),(14,sQ 0 l.length c1),(15,iv l.length),(16,sQ 3 l.length l.length),(17,CK l.length m.length c1 c2 n aI (sQ 3 l.length l.length) aI)] ((4,aq 1 [.pointer none])::(3,aq 1 (rep l.length [aI]))::hQ l m n c1 c2) 5 (fun e' h' nx'=>K (eG e') h' nx'):=by
 conv=>whnf
 exact hk
theorem tZ (l:List Pt)(m:List Ed)(n:Int)(c1 c2:Nat)(hl:l.length<=400):iO l m n c1 c2 2 [0,1,2,3,4,5,7] [(0,mQ l m n c1 c2),(1,pQ 2),(2,.pointer none),(3,pQ 4),(12,mQ l m n c1 c2),(13,pQ 2),(14,sQ 0 l.length c1),(15,iv l.length),(16,sQ 3 l.length l.length),(17,CK l.length m.length c1 c2 n aI (sQ 3 l.length l.length) aI)] ((4,aq 1 [.pointer none])::(3,aq 1 (rep l.length [aI]))::hQ l m n c1 c2) 5 :=
 mT (k:=1) (done:=[0,1,2,3,4,5,7]) rfl (zV l m n c1 c2 hl) (D6 l m n c1 c2 hl)
theorem BJ (l:List Pt)(m:List Ed)(n:Int)(c1 c2:Nat)(hl:l.length<=400)(K:KS)(hk:K [(0,mQ l m n c1 c2),(1,pQ 2),(2,.pointer none),(12,mQ l m n c1 c2),(13,pQ 2),(14,sQ 0 l.length c1),(15,iv l.length),(16,sQ 3 l.length l.length),(17,CK l.length m.length c1 c2 n aI (sQ 3 l.length l.length) aI),(18,pQ 4)] ((4,aq 1 (rZ l.length m.length c1 c2 n aI (sQ 3 l.length l.length) aI))::(3,aq 1 (rep l.length [aI]))::hQ l m n c1 c2) 5):fN 6 [(0,mQ l m n c1 c2),(1,pQ 2),(2,.pointer none),(12,mQ l m n c1 c2),(13,pQ 2),(14,sQ 0 l.length c1),(15,iv l.length),(16,sQ 3 l.length l.length),(17,CK l.length m.length c1 c2 n aI (sQ 3 l.length l.length) aI)] ((3,aq 1 (rep l.length [aI]))::hQ l m n c1 c2) 4 (fun e' h' nx'=>K (eG e') h' nx'):=by
 conv=>whnf
 exact hk
theorem A5 (l:List Pt)(m:List Ed)(n:Int)(c1 c2:Nat)(hl:l.length<=400)(K:KS)(hk:K [(0,mQ l m n c1 c2),(1,pQ 2),(2,.pointer none),(3,pQ 4),(12,mQ l m n c1 c2),(13,pQ 2),(14,sQ 0 l.length c1),(15,iv l.length),(16,sQ 3 l.length l.length),(17,CK l.length m.length c1 c2 n aI (sQ 3 l.length l.length) aI)] ((4,aq 1 [.pointer none])::(3,aq 1 (rep l.length [aI]))::hQ l m n c1 c2) 5):fN 7 [(0,mQ l m n c1 c2),(1,pQ 2),(2,.pointer none),(12,mQ l m n c1 c2),(13,pQ 2),(14,sQ 0 l.length c1),(15,iv l.length),(16,sQ 3 l.length l.length),(17,CK l.length m.length c1 c2 n aI (sQ 3 l.length l.length) aI)] ((3,aq 1 (rep l.length [aI]))::hQ l m n c1 c2) 4 (fun e' h' nx'=>K (eG e') h' nx'):=by
 conv=>whnf
 exact hk
theorem HL (l:List Pt)(m:List Ed)(n:Int)(c1 c2:Nat)(hl:l.length<=400):iO l m n c1 c2 3 [0,1,2,3,4,5] [(0,mQ l m n c1 c2),(1,pQ 2),(2,.pointer none),(12,mQ l m n c1 c2),(13,pQ 2),(14,sQ 0 l.length c1),(15,iv l.length),(16,sQ 3 l.length l.length),(17,CK l.length m.length c1 c2 n aI (sQ 3 l.length l.length) aI)] ((3,aq 1 (rep l.length [aI]))::hQ l m n c1 c2) 4 :=
 qN (k:=2) (done:=[0,1,2,3,4,5]) rfl (BJ l m n c1 c2 hl) (FG l m n c1 c2 hl) (A5 l m n c1 c2 hl) (tZ l m n c1 c2 hl)
theorem AY (l:List Pt)(m:List Ed)(n:Int)(c1 c2:Nat)(hl:l.length<=400)(K:KS)(hk:K [(0,mQ l m n c1 c2),(1,pQ 2),(2,.pointer none),(3,pQ 4),(12,mQ l m n c1 c2),(13,pQ 2),(14,sQ 0 l.length c1),(15,iv l.length),(16,sQ 3 l.length l.length),(17,CK l.length m.length c1 c2 n aI (sQ 3 l.length l.length) aI)] ((4,aq 1 [.pointer none])::(3,aq 1 (rep l.length [aI]))::hQ l m n c1 c2) 5):fN 5 [(0,mQ l m n c1 c2),(1,pQ 2),(2,.pointer none),(3,pQ 4),(12,mQ l m n c1 c2),(13,pQ 2),(14,sQ 0 l.length c1),(15,iv l.length),(16,sQ 3 l.length l.length)] ((4,aq 1 [.pointer none])::(3,aq 1 (rep l.length [aI]))::hQ l m n c1 c2) 5 (fun e' h' nx'=>K (eG e') h' nx'):=by
 conv=>whnf
 exact hk
theorem wG (l:List Pt)(m:List Ed)(n:Int)(c1 c2:Nat)(hl:l.length<=400):iO l m n c1 c2 3 [0,1,2,3,4,7] [(0,mQ l m n c1 c2),(1,pQ 2),(2,.pointer none),(3,pQ 4),(12,mQ l m n c1 c2),(13,pQ 2),(14,sQ 0 l.length c1),(15,iv l.length),(16,sQ 3 l.length l.length)] ((4,aq 1 [.pointer none])::(3,aq 1 (rep l.length [aI]))::hQ l m n c1 c2) 5 :=
 mT (k:=2) (done:=[0,1,2,3,4,7]) rfl (AY l m n c1 c2 hl) (tZ l m n c1 c2 hl)
theorem DB (l:List Pt)(m:List Ed)(n:Int)(c1 c2:Nat)(hl:l.length<=400)(K:KS)(hk:K [(0,mQ l m n c1 c2),(1,pQ 2),(2,.pointer none),(12,mQ l m n c1 c2),(13,pQ 2),(14,sQ 0 l.length c1),(15,iv l.length),(16,sQ 3 l.length l.length),(17,CK l.length m.length c1 c2 n aI (sQ 3 l.length l.length) aI)] ((3,aq 1 (rep l.length [aI]))::hQ l m n c1 c2) 4):fN 5 [(0,mQ l m n c1 c2),(1,pQ 2),(2,.pointer none),(12,mQ l m n c1 c2),(13,pQ 2),(14,sQ 0 l.length c1),(15,iv l.length),(16,sQ 3 l.length l.length)] ((3,aq 1 (rep l.length [aI]))::hQ l m n c1 c2) 4 (fun e' h' nx'=>K (eG e') h' nx'):=by
 conv=>whnf
 exact hk
theorem CL (l:List Pt)(m:List Ed)(n:Int)(c1 c2:Nat)(hl:l.length<=400)(K:KS)(hk:K [(0,mQ l m n c1 c2),(1,pQ 2),(2,.pointer none),(3,pQ 4),(12,mQ l m n c1 c2),(13,pQ 2),(14,sQ 0 l.length c1),(15,iv l.length),(16,sQ 3 l.length l.length)] ((4,aq 1 [.pointer none])::(3,aq 1 (rep l.length [aI]))::hQ l m n c1 c2) 5):fN 7 [(0,mQ l m n c1 c2),(1,pQ 2),(2,.pointer none),(12,mQ l m n c1 c2),(13,pQ 2),(14,sQ 0 l.length c1),(15,iv l.length),(16,sQ 3 l.length l.length)] ((3,aq 1 (rep l.length [aI]))::hQ l m n c1 c2) 4 (fun e' h' nx'=>K (eG e') h' nx'):=by
 conv=>whnf
 exact hk
theorem xG (l:List Pt)(m:List Ed)(n:Int)(c1 c2:Nat)(hl:l.length<=400):iO l m n c1 c2 4 [0,1,2,3,4] [(0,mQ l m n c1 c2),(1,pQ 2),(2,.pointer none),(12,mQ l m n c1 c2),(13,pQ 2),(14,sQ 0 l.length c1),(15,iv l.length),(16,sQ 3 l.length l.length)] ((3,aq 1 (rep l.length [aI]))::hQ l m n c1 c2) 4 :=
 qN (k:=3) (done:=[0,1,2,3,4]) rfl (DB l m n c1 c2 hl) (HL l m n c1 c2 hl) (CL l m n c1 c2 hl) (wG l m n c1 c2 hl)
theorem BB (l:List Pt)(m:List Ed)(n:Int)(c1 c2:Nat)(hl:l.length<=400):iO l m n c1 c2 0 [0,1,2,3,4,5,6,7,8] [(0,mQ l m n c1 c2),(1,pQ 2),(2,.pointer none),(3,pQ 3),(12,mQ l m n c1 c2),(13,pQ 2),(14,sQ 0 l.length c1),(15,iv l.length),(16,sQ 4 l.length l.length),(17,CK l.length m.length c1 c2 n aI (sQ 4 l.length l.length) aI),(18,pQ 5)] ((5,aq 1 (rZ l.length m.length c1 c2 n aI (sQ 4 l.length l.length) aI))::(4,aq 1 (rep l.length [aI]))::(3,aq 1 [pQ 5])::hQ l m n c1 c2) 6 :=
 ⟨I3 (e0:=O9) (h0:=oM l m c1 c2 n) (n0:=6) [(3,3),(4,5),(5,4)] ⟨rfl,rfl,rfl⟩ (ae.2 ⟨⟨rfl,⟨by decide,rfl⟩⟩,ae.2 ⟨⟨rfl,⟨by decide,rfl⟩⟩,fun _ h=>(by cases h)⟩⟩)
  (by
   unfold oM dU aS rZ aI;refine ae.2 ⟨⟨ab,_,rfl,aE (W1 _)⟩,?_⟩;exact xH)
  (by show ∀ k∈[5,3,4,2,0,1],∀ k'∈[5,3,4,2,0,1],_;decide) (by decide) (by decide)⟩
theorem yD (l:List Pt)(m:List Ed)(n:Int)(c1 c2:Nat)(hl:l.length<=400)(K:KS)(hk:K [(0,mQ l m n c1 c2),(1,pQ 2),(2,.pointer none),(3,pQ 3),(12,mQ l m n c1 c2),(13,pQ 2),(14,sQ 0 l.length c1),(15,iv l.length),(16,sQ 4 l.length l.length),(17,CK l.length m.length c1 c2 n aI (sQ 4 l.length l.length) aI),(18,pQ 5)] ((5,aq 1 (rZ l.length m.length c1 c2 n aI (sQ 4 l.length l.length) aI))::(4,aq 1 (rep l.length [aI]))::(3,aq 1 [pQ 5])::hQ l m n c1 c2) 6):fN 8 [(0,mQ l m n c1 c2),(1,pQ 2),(2,.pointer none),(3,pQ 3),(12,mQ l m n c1 c2),(13,pQ 2),(14,sQ 0 l.length c1),(15,iv l.length),(16,sQ 4 l.length l.length),(17,CK l.length m.length c1 c2 n aI (sQ 4 l.length l.length) aI),(18,pQ 5)] ((5,aq 1 (rZ l.length m.length c1 c2 n aI (sQ 4 l.length l.length) aI))::(4,aq 1 (rep l.length [aI]))::(3,aq 1 [.pointer none])::hQ l m n c1 c2) 6 (fun e' h' nx'=>K (eG e') h' nx'):=by
 conv=>whnf
 exact hk
theorem CY (l:List Pt)(m:List Ed)(n:Int)(c1 c2:Nat)(hl:l.length<=400):iO l m n c1 c2 1 [0,1,2,3,4,5,6,7] [(0,mQ l m n c1 c2),(1,pQ 2),(2,.pointer none),(3,pQ 3),(12,mQ l m n c1 c2),(13,pQ 2),(14,sQ 0 l.length c1),(15,iv l.length),(16,sQ 4 l.length l.length),(17,CK l.length m.length c1 c2 n aI (sQ 4 l.length l.length) aI),(18,pQ 5)] ((5,aq 1 (rZ l.length m.length c1 c2 n aI (sQ 4 l.length l.length) aI))::(4,aq 1 (rep l.length [aI]))::(3,aq 1 [.pointer none])::hQ l m n c1 c2) 6 :=
 mT (k:=0) (done:=[0,1,2,3,4,5,6,7]) rfl (yD l m n c1 c2 hl) (BB l m n c1 c2 hl)
theorem zS (l:List Pt)(m:List Ed)(n:Int)(c1 c2:Nat)(hl:l.length<=400)(K:KS)(hk:K [(0,mQ l m n c1 c2),(1,pQ 2),(2,.pointer none),(3,pQ 3),(12,mQ l m n c1 c2),(13,pQ 2),(14,sQ 0 l.length c1),(15,iv l.length),(16,sQ 4 l.length l.length),(17,CK l.length m.length c1 c2 n aI (sQ 4 l.length l.length) aI),(18,pQ 5)] ((5,aq 1 (rZ l.length m.length c1 c2 n aI (sQ 4 l.length l.length) aI))::(4,aq 1 (rep l.length [aI]))::(3,aq 1 [.pointer none])::hQ l m n c1 c2) 6):fN 6 [(0,mQ l m n c1 c2),(1,pQ 2),(2,.pointer none),(3,pQ 3),(12,mQ l m n c1 c2),(13,pQ 2),(14,sQ 0 l.length c1),(15,iv l.length),(16,sQ 4 l.length l.length),(17,CK l.length m.length c1 c2 n aI (sQ 4 l.length l.length) aI)] ((4,aq 1 (rep l.length [aI]))::(3,aq 1 [.pointer none])::hQ l m n c1 c2) 5 (fun e' h' nx'=>K (eG e') h' nx'):=by
 conv=>whnf
 exact hk
theorem ET (l:List Pt)(m:List Ed)(n:Int)(c1 c2:Nat)(hl:l.length<=400):iO l m n c1 c2 2 [0,1,2,3,4,5,7] [(0,mQ l m n c1 c2),(1,pQ 2),(2,.pointer none),(3,pQ 3),(12,mQ l m n c1 c2),(13,pQ 2),(14,sQ 0 l.length c1),(15,iv l.length),(16,sQ 4 l.length l.length),(17,CK l.length m.length c1 c2 n aI (sQ 4 l.length l.length) aI)] ((4,aq 1 (rep l.length [aI]))::(3,aq 1 [.pointer none])::hQ l m n c1 c2) 5 :=
 mT (k:=1) (done:=[0,1,2,3,4,5,7]) rfl (zS l m n c1 c2 hl) (CY l m n c1 c2 hl)
theorem AV (l:List Pt)(m:List Ed)(n:Int)(c1 c2:Nat)(hl:l.length<=400)(K:KS)(hk:K [(0,mQ l m n c1 c2),(1,pQ 2),(2,.pointer none),(3,pQ 3),(12,mQ l m n c1 c2),(13,pQ 2),(14,sQ 0 l.length c1),(15,iv l.length),(16,sQ 4 l.length l.length),(17,CK l.length m.length c1 c2 n aI (sQ 4 l.length l.length) aI)] ((4,aq 1 (rep l.length [aI]))::(3,aq 1 [.pointer none])::hQ l m n c1 c2) 5):fN 5 [(0,mQ l m n c1 c2),(1,pQ 2),(2,.pointer none),(3,pQ 3),(12,mQ l m n c1 c2),(13,pQ 2),(14,sQ 0 l.length c1),(15,iv l.length),(16,sQ 4 l.length l.length)] ((4,aq 1 (rep l.length [aI]))::(3,aq 1 [.pointer none])::hQ l m n c1 c2) 5 (fun e' h' nx'=>K (eG e') h' nx'):=by
 conv=>whnf
 exact hk
theorem wI (l:List Pt)(m:List Ed)(n:Int)(c1 c2:Nat)(hl:l.length<=400):iO l m n c1 c2 3 [0,1,2,3,4,7] [(0,mQ l m n c1 c2),(1,pQ 2),(2,.pointer none),(3,pQ 3),(12,mQ l m n c1 c2),(13,pQ 2),(14,sQ 0 l.length c1),(15,iv l.length),(16,sQ 4 l.length l.length)] ((4,aq 1 (rep l.length [aI]))::(3,aq 1 [.pointer none])::hQ l m n c1 c2) 5 :=
 mT (k:=2) (done:=[0,1,2,3,4,7]) rfl (AV l m n c1 c2 hl) (ET l m n c1 c2 hl)
theorem CB (l:List Pt)(m:List Ed)(n:Int)(c1 c2:Nat)(hl:l.length<=400)(K:KS)(hk:K [(0,mQ l m n c1 c2),(1,pQ 2),(2,.pointer none),(3,pQ 3),(12,mQ l m n c1 c2),(13,pQ 2),(14,sQ 0 l.length c1),(15,iv l.length),(16,sQ 4 l.length l.length)] ((4,aq 1 (rep l.length [aI]))::(3,aq 1 [.pointer none])::hQ l m n c1 c2) 5):fN 4 [(0,mQ l m n c1 c2),(1,pQ 2),(2,.pointer none),(3,pQ 3),(12,mQ l m n c1 c2),(13,pQ 2),(14,sQ 0 l.length c1),(15,iv l.length)] ((3,aq 1 [.pointer none])::hQ l m n c1 c2) 4 (fun e' h' nx'=>K (eG e') h' nx'):=by
 conv=>whnf
 exact bm (fun _=>hk) (fun g=>by exfalso;simp[aB,aF]at g;omega)
theorem qM (l:List Pt)(m:List Ed)(n:Int)(c1 c2:Nat)(hl:l.length<=400):iO l m n c1 c2 4 [0,1,2,3,7] [(0,mQ l m n c1 c2),(1,pQ 2),(2,.pointer none),(3,pQ 3),(12,mQ l m n c1 c2),(13,pQ 2),(14,sQ 0 l.length c1),(15,iv l.length)] ((3,aq 1 [.pointer none])::hQ l m n c1 c2) 4 :=
 mT (k:=3) (done:=[0,1,2,3,7]) rfl (CB l m n c1 c2 hl) (wI l m n c1 c2 hl)
theorem FP (l:List Pt)(m:List Ed)(n:Int)(c1 c2:Nat)(hl:l.length<=400)(K:KS)(hk:K [(0,mQ l m n c1 c2),(1,pQ 2),(2,.pointer none),(12,mQ l m n c1 c2),(13,pQ 2),(14,sQ 0 l.length c1),(15,iv l.length),(16,sQ 3 l.length l.length)] ((3,aq 1 (rep l.length [aI]))::hQ l m n c1 c2) 4):fN 4 [(0,mQ l m n c1 c2),(1,pQ 2),(2,.pointer none),(12,mQ l m n c1 c2),(13,pQ 2),(14,sQ 0 l.length c1),(15,iv l.length)] (hQ l m n c1 c2) 3 (fun e' h' nx'=>K (eG e') h' nx'):=by
 conv=>whnf
 exact bm (fun _=>hk) (fun g=>by exfalso;simp[aB,aF]at g;omega)
theorem FN (l:List Pt)(m:List Ed)(n:Int)(c1 c2:Nat)(hl:l.length<=400)(K:KS)(hk:K [(0,mQ l m n c1 c2),(1,pQ 2),(2,.pointer none),(3,pQ 3),(12,mQ l m n c1 c2),(13,pQ 2),(14,sQ 0 l.length c1),(15,iv l.length)] ((3,aq 1 [.pointer none])::hQ l m n c1 c2) 4):fN 7 [(0,mQ l m n c1 c2),(1,pQ 2),(2,.pointer none),(12,mQ l m n c1 c2),(13,pQ 2),(14,sQ 0 l.length c1),(15,iv l.length)] (hQ l m n c1 c2) 3 (fun e' h' nx'=>K (eG e') h' nx'):=by
 conv=>whnf
 exact hk
theorem AK (l:List Pt)(m:List Ed)(n:Int)(c1 c2:Nat)(hl:l.length<=400):iO l m n c1 c2 5 [0,1,2,3] [(0,mQ l m n c1 c2),(1,pQ 2),(2,.pointer none),(12,mQ l m n c1 c2),(13,pQ 2),(14,sQ 0 l.length c1),(15,iv l.length)] (hQ l m n c1 c2) 3 :=
 qN (k:=4) (done:=[0,1,2,3]) rfl (FP l m n c1 c2 hl) (xG l m n c1 c2 hl) (FN l m n c1 c2 hl) (qM l m n c1 c2 hl)
theorem F0 (l:List Pt)(m:List Ed)(n:Int)(c1 c2:Nat)(hl:l.length<=400)(K:KS)(hk:K [(0,mQ l m n c1 c2),(1,pQ 2),(2,.pointer none),(3,pQ 3),(12,mQ l m n c1 c2),(13,pQ 2),(14,sQ 0 l.length c1),(15,iv l.length)] ((3,aq 1 [.pointer none])::hQ l m n c1 c2) 4):fN 3 [(0,mQ l m n c1 c2),(1,pQ 2),(2,.pointer none),(3,pQ 3),(12,mQ l m n c1 c2),(13,pQ 2),(14,sQ 0 l.length c1)] ((3,aq 1 [.pointer none])::hQ l m n c1 c2) 4 (fun e' h' nx'=>K (eG e') h' nx'):=by
 conv=>whnf
 exact hk
theorem sL (l:List Pt)(m:List Ed)(n:Int)(c1 c2:Nat)(hl:l.length<=400):iO l m n c1 c2 5 [0,1,2,7] [(0,mQ l m n c1 c2),(1,pQ 2),(2,.pointer none),(3,pQ 3),(12,mQ l m n c1 c2),(13,pQ 2),(14,sQ 0 l.length c1)] ((3,aq 1 [.pointer none])::hQ l m n c1 c2) 4 :=
 mT (k:=4) (done:=[0,1,2,7]) rfl (F0 l m n c1 c2 hl) (qM l m n c1 c2 hl)
theorem HR (l:List Pt)(m:List Ed)(n:Int)(c1 c2:Nat)(hl:l.length<=400)(K:KS)(hk:K [(0,mQ l m n c1 c2),(1,pQ 2),(2,.pointer none),(12,mQ l m n c1 c2),(13,pQ 2),(14,sQ 0 l.length c1),(15,iv l.length)] (hQ l m n c1 c2) 3):fN 3 [(0,mQ l m n c1 c2),(1,pQ 2),(2,.pointer none),(12,mQ l m n c1 c2),(13,pQ 2),(14,sQ 0 l.length c1)] (hQ l m n c1 c2) 3 (fun e' h' nx'=>K (eG e') h' nx'):=by
 conv=>whnf
 exact hk
theorem G9 (l:List Pt)(m:List Ed)(n:Int)(c1 c2:Nat)(hl:l.length<=400)(K:KS)(hk:K [(0,mQ l m n c1 c2),(1,pQ 2),(2,.pointer none),(3,pQ 3),(12,mQ l m n c1 c2),(13,pQ 2),(14,sQ 0 l.length c1)] ((3,aq 1 [.pointer none])::hQ l m n c1 c2) 4):fN 7 [(0,mQ l m n c1 c2),(1,pQ 2),(2,.pointer none),(12,mQ l m n c1 c2),(13,pQ 2),(14,sQ 0 l.length c1)] (hQ l m n c1 c2) 3 (fun e' h' nx'=>K (eG e') h' nx'):=by
 conv=>whnf
 exact hk
theorem CR (l:List Pt)(m:List Ed)(n:Int)(c1 c2:Nat)(hl:l.length<=400):iO l m n c1 c2 6 [0,1,2] [(0,mQ l m n c1 c2),(1,pQ 2),(2,.pointer none),(12,mQ l m n c1 c2),(13,pQ 2),(14,sQ 0 l.length c1)] (hQ l m n c1 c2) 3 :=
 qN (k:=5) (done:=[0,1,2]) rfl (HR l m n c1 c2 hl) (AK l m n c1 c2 hl) (G9 l m n c1 c2 hl) (sL l m n c1 c2 hl)
theorem HY (l:List Pt)(m:List Ed)(n:Int)(c1 c2:Nat)(hl:l.length<=400)(K:KS)(hk:K [(0,mQ l m n c1 c2),(1,pQ 2),(2,.pointer none),(3,pQ 3),(12,mQ l m n c1 c2),(13,pQ 2),(14,sQ 0 l.length c1)] ((3,aq 1 [.pointer none])::hQ l m n c1 c2) 4):fN 2 [(0,mQ l m n c1 c2),(1,pQ 2),(2,.pointer none),(3,pQ 3),(12,mQ l m n c1 c2),(13,pQ 2)] ((3,aq 1 [.pointer none])::hQ l m n c1 c2) 4 (fun e' h' nx'=>K (eG e') h' nx'):=by
 conv=>whnf
 exact hk
theorem vD (l:List Pt)(m:List Ed)(n:Int)(c1 c2:Nat)(hl:l.length<=400):iO l m n c1 c2 6 [0,1,7] [(0,mQ l m n c1 c2),(1,pQ 2),(2,.pointer none),(3,pQ 3),(12,mQ l m n c1 c2),(13,pQ 2)] ((3,aq 1 [.pointer none])::hQ l m n c1 c2) 4 :=
 mT (k:=5) (done:=[0,1,7]) rfl (HY l m n c1 c2 hl) (sL l m n c1 c2 hl)
theorem KN (l:List Pt)(m:List Ed)(n:Int)(c1 c2:Nat)(hl:l.length<=400)(K:KS)(hk:K [(0,mQ l m n c1 c2),(1,pQ 2),(2,.pointer none),(12,mQ l m n c1 c2),(13,pQ 2),(14,sQ 0 l.length c1)] (hQ l m n c1 c2) 3):fN 2 [(0,mQ l m n c1 c2),(1,pQ 2),(2,.pointer none),(12,mQ l m n c1 c2),(13,pQ 2)] (hQ l m n c1 c2) 3 (fun e' h' nx'=>K (eG e') h' nx'):=by
 conv=>whnf
 exact hk
theorem MI (l:List Pt)(m:List Ed)(n:Int)(c1 c2:Nat)(hl:l.length<=400)(K:KS)(hk:K [(0,mQ l m n c1 c2),(1,pQ 2),(2,.pointer none),(3,pQ 3),(12,mQ l m n c1 c2),(13,pQ 2)] ((3,aq 1 [.pointer none])::hQ l m n c1 c2) 4):fN 7 [(0,mQ l m n c1 c2),(1,pQ 2),(2,.pointer none),(12,mQ l m n c1 c2),(13,pQ 2)] (hQ l m n c1 c2) 3 (fun e' h' nx'=>K (eG e') h' nx'):=by
 conv=>whnf
 exact hk
theorem GF (l:List Pt)(m:List Ed)(n:Int)(c1 c2:Nat)(hl:l.length<=400):iO l m n c1 c2 7 [0,1] [(0,mQ l m n c1 c2),(1,pQ 2),(2,.pointer none),(12,mQ l m n c1 c2),(13,pQ 2)] (hQ l m n c1 c2) 3 :=
 qN (k:=6) (done:=[0,1]) rfl (KN l m n c1 c2 hl) (CR l m n c1 c2 hl) (MI l m n c1 c2 hl) (vD l m n c1 c2 hl)
theorem L9 (l:List Pt)(m:List Ed)(n:Int)(c1 c2:Nat)(hl:l.length<=400)(K:KS)(hk:K [(0,mQ l m n c1 c2),(1,pQ 2),(2,.pointer none),(3,pQ 3),(12,mQ l m n c1 c2),(13,pQ 2)] ((3,aq 1 [.pointer none])::hQ l m n c1 c2) 4):fN 1 [(0,mQ l m n c1 c2),(1,pQ 2),(2,.pointer none),(3,pQ 3),(12,mQ l m n c1 c2)] ((3,aq 1 [.pointer none])::hQ l m n c1 c2) 4 (fun e' h' nx'=>K (eG e') h' nx'):=by
 conv=>whnf
 exact hk
theorem G0 (l:List Pt)(m:List Ed)(n:Int)(c1 c2:Nat)(hl:l.length<=400):iO l m n c1 c2 7 [0,7] [(0,mQ l m n c1 c2),(1,pQ 2),(2,.pointer none),(3,pQ 3),(12,mQ l m n c1 c2)] ((3,aq 1 [.pointer none])::hQ l m n c1 c2) 4 :=
 mT (k:=6) (done:=[0,7]) rfl (L9 l m n c1 c2 hl) (vD l m n c1 c2 hl)
theorem NL (l:List Pt)(m:List Ed)(n:Int)(c1 c2:Nat)(hl:l.length<=400)(K:KS)(hk:K [(0,mQ l m n c1 c2),(1,pQ 2),(2,.pointer none),(12,mQ l m n c1 c2),(13,pQ 2)] (hQ l m n c1 c2) 3):fN 1 [(0,mQ l m n c1 c2),(1,pQ 2),(2,.pointer none),(12,mQ l m n c1 c2)] (hQ l m n c1 c2) 3 (fun e' h' nx'=>K (eG e') h' nx'):=by
 conv=>whnf
 exact hk
theorem NO (l:List Pt)(m:List Ed)(n:Int)(c1 c2:Nat)(hl:l.length<=400)(K:KS)(hk:K [(0,mQ l m n c1 c2),(1,pQ 2),(2,.pointer none),(3,pQ 3),(12,mQ l m n c1 c2)] ((3,aq 1 [.pointer none])::hQ l m n c1 c2) 4):fN 7 [(0,mQ l m n c1 c2),(1,pQ 2),(2,.pointer none),(12,mQ l m n c1 c2)] (hQ l m n c1 c2) 3 (fun e' h' nx'=>K (eG e') h' nx'):=by
 conv=>whnf
 exact hk
theorem ZJ (l:List Pt)(m:List Ed)(n:Int)(c1 c2:Nat)(hl:l.length<=400):iO l m n c1 c2 8 [0] [(0,mQ l m n c1 c2),(1,pQ 2),(2,.pointer none),(12,mQ l m n c1 c2)] (hQ l m n c1 c2) 3 :=
 qN (k:=7) (done:=[0]) rfl (NL l m n c1 c2 hl) (GF l m n c1 c2 hl) (NO l m n c1 c2 hl) (G0 l m n c1 c2 hl)
theorem DT (l:List Pt)(m:List Ed)(n:Int)(c1 c2:Nat)(hl:l.length<=400)(K:KS)(hk:K [(0,mQ l m n c1 c2),(1,pQ 2),(2,.pointer none),(3,pQ 4),(12,mQ l m n c1 c2),(13,pQ 2),(14,sQ 0 l.length c1),(15,iv l.length),(16,sQ 3 l.length l.length)] ((4,aq 1 [.pointer none])::(3,aq 1 (rep l.length [aI]))::hQ l m n c1 c2) 5):fN 0 [(0,mQ l m n c1 c2),(1,pQ 2),(2,.pointer none),(3,pQ 4),(13,pQ 2),(14,sQ 0 l.length c1),(15,iv l.length),(16,sQ 3 l.length l.length)] ((4,aq 1 [.pointer none])::(3,aq 1 (rep l.length [aI]))::hQ l m n c1 c2) 5 (fun e' h' nx'=>K (eG e') h' nx'):=by
 conv=>whnf
 exact hk
theorem LQ (l:List Pt)(m:List Ed)(n:Int)(c1 c2:Nat)(hl:l.length<=400):iO l m n c1 c2 4 [1,2,3,4,7] [(0,mQ l m n c1 c2),(1,pQ 2),(2,.pointer none),(3,pQ 4),(13,pQ 2),(14,sQ 0 l.length c1),(15,iv l.length),(16,sQ 3 l.length l.length)] ((4,aq 1 [.pointer none])::(3,aq 1 (rep l.length [aI]))::hQ l m n c1 c2) 5 :=
 mT (k:=3) (done:=[1,2,3,4,7]) rfl (DT l m n c1 c2 hl) (wG l m n c1 c2 hl)
theorem FV (l:List Pt)(m:List Ed)(n:Int)(c1 c2:Nat)(hl:l.length<=400)(K:KS)(hk:K [(0,mQ l m n c1 c2),(1,pQ 2),(2,.pointer none),(12,mQ l m n c1 c2),(13,pQ 2),(14,sQ 0 l.length c1),(15,iv l.length),(16,sQ 3 l.length l.length)] ((3,aq 1 (rep l.length [aI]))::hQ l m n c1 c2) 4):fN 0 [(0,mQ l m n c1 c2),(1,pQ 2),(2,.pointer none),(13,pQ 2),(14,sQ 0 l.length c1),(15,iv l.length),(16,sQ 3 l.length l.length)] ((3,aq 1 (rep l.length [aI]))::hQ l m n c1 c2) 4 (fun e' h' nx'=>K (eG e') h' nx'):=by
 conv=>whnf
 exact hk
theorem FZ (l:List Pt)(m:List Ed)(n:Int)(c1 c2:Nat)(hl:l.length<=400)(K:KS)(hk:K [(0,mQ l m n c1 c2),(1,pQ 2),(2,.pointer none),(3,pQ 4),(13,pQ 2),(14,sQ 0 l.length c1),(15,iv l.length),(16,sQ 3 l.length l.length)] ((4,aq 1 [.pointer none])::(3,aq 1 (rep l.length [aI]))::hQ l m n c1 c2) 5):fN 7 [(0,mQ l m n c1 c2),(1,pQ 2),(2,.pointer none),(13,pQ 2),(14,sQ 0 l.length c1),(15,iv l.length),(16,sQ 3 l.length l.length)] ((3,aq 1 (rep l.length [aI]))::hQ l m n c1 c2) 4 (fun e' h' nx'=>K (eG e') h' nx'):=by
 conv=>whnf
 exact hk
theorem NZ (l:List Pt)(m:List Ed)(n:Int)(c1 c2:Nat)(hl:l.length<=400):iO l m n c1 c2 5 [1,2,3,4] [(0,mQ l m n c1 c2),(1,pQ 2),(2,.pointer none),(13,pQ 2),(14,sQ 0 l.length c1),(15,iv l.length),(16,sQ 3 l.length l.length)] ((3,aq 1 (rep l.length [aI]))::hQ l m n c1 c2) 4 :=
 qN (k:=4) (done:=[1,2,3,4]) rfl (FV l m n c1 c2 hl) (xG l m n c1 c2 hl) (FZ l m n c1 c2 hl) (LQ l m n c1 c2 hl)
theorem DU (l:List Pt)(m:List Ed)(n:Int)(c1 c2:Nat)(hl:l.length<=400)(K:KS)(hk:K [(0,mQ l m n c1 c2),(1,pQ 2),(2,.pointer none),(3,pQ 3),(12,mQ l m n c1 c2),(13,pQ 2),(14,sQ 0 l.length c1),(15,iv l.length),(16,sQ 4 l.length l.length)] ((4,aq 1 (rep l.length [aI]))::(3,aq 1 [.pointer none])::hQ l m n c1 c2) 5):fN 0 [(0,mQ l m n c1 c2),(1,pQ 2),(2,.pointer none),(3,pQ 3),(13,pQ 2),(14,sQ 0 l.length c1),(15,iv l.length),(16,sQ 4 l.length l.length)] ((4,aq 1 (rep l.length [aI]))::(3,aq 1 [.pointer none])::hQ l m n c1 c2) 5 (fun e' h' nx'=>K (eG e') h' nx'):=by
 conv=>whnf
 exact hk
theorem L5 (l:List Pt)(m:List Ed)(n:Int)(c1 c2:Nat)(hl:l.length<=400):iO l m n c1 c2 4 [1,2,3,4,7] [(0,mQ l m n c1 c2),(1,pQ 2),(2,.pointer none),(3,pQ 3),(13,pQ 2),(14,sQ 0 l.length c1),(15,iv l.length),(16,sQ 4 l.length l.length)] ((4,aq 1 (rep l.length [aI]))::(3,aq 1 [.pointer none])::hQ l m n c1 c2) 5 :=
 mT (k:=3) (done:=[1,2,3,4,7]) rfl (DU l m n c1 c2 hl) (wI l m n c1 c2 hl)
theorem EU (l:List Pt)(m:List Ed)(n:Int)(c1 c2:Nat)(hl:l.length<=400)(K:KS)(hk:K [(0,mQ l m n c1 c2),(1,pQ 2),(2,.pointer none),(3,pQ 3),(12,mQ l m n c1 c2),(13,pQ 2),(14,sQ 0 l.length c1),(15,iv l.length)] ((3,aq 1 [.pointer none])::hQ l m n c1 c2) 4):fN 0 [(0,mQ l m n c1 c2),(1,pQ 2),(2,.pointer none),(3,pQ 3),(13,pQ 2),(14,sQ 0 l.length c1),(15,iv l.length)] ((3,aq 1 [.pointer none])::hQ l m n c1 c2) 4 (fun e' h' nx'=>K (eG e') h' nx'):=by
 conv=>whnf
 exact hk
theorem FM (l:List Pt)(m:List Ed)(n:Int)(c1 c2:Nat)(hl:l.length<=400)(K:KS)(hk:K [(0,mQ l m n c1 c2),(1,pQ 2),(2,.pointer none),(3,pQ 3),(13,pQ 2),(14,sQ 0 l.length c1),(15,iv l.length),(16,sQ 4 l.length l.length)] ((4,aq 1 (rep l.length [aI]))::(3,aq 1 [.pointer none])::hQ l m n c1 c2) 5):fN 4 [(0,mQ l m n c1 c2),(1,pQ 2),(2,.pointer none),(3,pQ 3),(13,pQ 2),(14,sQ 0 l.length c1),(15,iv l.length)] ((3,aq 1 [.pointer none])::hQ l m n c1 c2) 4 (fun e' h' nx'=>K (eG e') h' nx'):=by
 conv=>whnf
 exact bm (fun _=>hk) (fun g=>by exfalso;simp[aB,aF]at g;omega)
theorem AE (l:List Pt)(m:List Ed)(n:Int)(c1 c2:Nat)(hl:l.length<=400):iO l m n c1 c2 5 [1,2,3,7] [(0,mQ l m n c1 c2),(1,pQ 2),(2,.pointer none),(3,pQ 3),(13,pQ 2),(14,sQ 0 l.length c1),(15,iv l.length)] ((3,aq 1 [.pointer none])::hQ l m n c1 c2) 4 :=
 qN (k:=4) (done:=[1,2,3,7]) rfl (EU l m n c1 c2 hl) (qM l m n c1 c2 hl) (FM l m n c1 c2 hl) (L5 l m n c1 c2 hl)
theorem HW (l:List Pt)(m:List Ed)(n:Int)(c1 c2:Nat)(hl:l.length<=400)(K:KS)(hk:K [(0,mQ l m n c1 c2),(1,pQ 2),(2,.pointer none),(12,mQ l m n c1 c2),(13,pQ 2),(14,sQ 0 l.length c1),(15,iv l.length)] (hQ l m n c1 c2) 3):fN 0 [(0,mQ l m n c1 c2),(1,pQ 2),(2,.pointer none),(13,pQ 2),(14,sQ 0 l.length c1),(15,iv l.length)] (hQ l m n c1 c2) 3 (fun e' h' nx'=>K (eG e') h' nx'):=by
 conv=>whnf
 exact hk
theorem HK (l:List Pt)(m:List Ed)(n:Int)(c1 c2:Nat)(hl:l.length<=400)(K:KS)(hk:K [(0,mQ l m n c1 c2),(1,pQ 2),(2,.pointer none),(13,pQ 2),(14,sQ 0 l.length c1),(15,iv l.length),(16,sQ 3 l.length l.length)] ((3,aq 1 (rep l.length [aI]))::hQ l m n c1 c2) 4):fN 4 [(0,mQ l m n c1 c2),(1,pQ 2),(2,.pointer none),(13,pQ 2),(14,sQ 0 l.length c1),(15,iv l.length)] (hQ l m n c1 c2) 3 (fun e' h' nx'=>K (eG e') h' nx'):=by
 conv=>whnf
 exact bm (fun _=>hk) (fun g=>by exfalso;simp[aB,aF]at g;omega)
theorem HN (l:List Pt)(m:List Ed)(n:Int)(c1 c2:Nat)(hl:l.length<=400)(K:KS)(hk:K [(0,mQ l m n c1 c2),(1,pQ 2),(2,.pointer none),(3,pQ 3),(13,pQ 2),(14,sQ 0 l.length c1),(15,iv l.length)] ((3,aq 1 [.pointer none])::hQ l m n c1 c2) 4):fN 7 [(0,mQ l m n c1 c2),(1,pQ 2),(2,.pointer none),(13,pQ 2),(14,sQ 0 l.length c1),(15,iv l.length)] (hQ l m n c1 c2) 3 (fun e' h' nx'=>K (eG e') h' nx'):=by
 conv=>whnf
 exact hk
theorem P7 (l:List Pt)(m:List Ed)(n:Int)(c1 c2:Nat)(hl:l.length<=400):iO l m n c1 c2 6 [1,2,3] [(0,mQ l m n c1 c2),(1,pQ 2),(2,.pointer none),(13,pQ 2),(14,sQ 0 l.length c1),(15,iv l.length)] (hQ l m n c1 c2) 3 :=
 RK (k:=5) (done:=[1,2,3]) rfl (HW l m n c1 c2 hl) (AK l m n c1 c2 hl) (HK l m n c1 c2 hl) (NZ l m n c1 c2 hl) (HN l m n c1 c2 hl) (AE l m n c1 c2 hl)
theorem G5 (l:List Pt)(m:List Ed)(n:Int)(c1 c2:Nat)(hl:l.length<=400)(K:KS)(hk:K [(0,mQ l m n c1 c2),(1,pQ 2),(2,.pointer none),(3,pQ 3),(12,mQ l m n c1 c2),(13,pQ 2),(14,sQ 0 l.length c1)] ((3,aq 1 [.pointer none])::hQ l m n c1 c2) 4):fN 0 [(0,mQ l m n c1 c2),(1,pQ 2),(2,.pointer none),(3,pQ 3),(13,pQ 2),(14,sQ 0 l.length c1)] ((3,aq 1 [.pointer none])::hQ l m n c1 c2) 4 (fun e' h' nx'=>K (eG e') h' nx'):=by
 conv=>whnf
 exact hk
theorem HU (l:List Pt)(m:List Ed)(n:Int)(c1 c2:Nat)(hl:l.length<=400)(K:KS)(hk:K [(0,mQ l m n c1 c2),(1,pQ 2),(2,.pointer none),(3,pQ 3),(13,pQ 2),(14,sQ 0 l.length c1),(15,iv l.length)] ((3,aq 1 [.pointer none])::hQ l m n c1 c2) 4):fN 3 [(0,mQ l m n c1 c2),(1,pQ 2),(2,.pointer none),(3,pQ 3),(13,pQ 2),(14,sQ 0 l.length c1)] ((3,aq 1 [.pointer none])::hQ l m n c1 c2) 4 (fun e' h' nx'=>K (eG e') h' nx'):=by
 conv=>whnf
 exact hk
theorem DZ (l:List Pt)(m:List Ed)(n:Int)(c1 c2:Nat)(hl:l.length<=400):iO l m n c1 c2 6 [1,2,7] [(0,mQ l m n c1 c2),(1,pQ 2),(2,.pointer none),(3,pQ 3),(13,pQ 2),(14,sQ 0 l.length c1)] ((3,aq 1 [.pointer none])::hQ l m n c1 c2) 4 :=
 qN (k:=5) (done:=[1,2,7]) rfl (G5 l m n c1 c2 hl) (sL l m n c1 c2 hl) (HU l m n c1 c2 hl) (AE l m n c1 c2 hl)
theorem M0 (l:List Pt)(m:List Ed)(n:Int)(c1 c2:Nat)(hl:l.length<=400)(K:KS)(hk:K [(0,mQ l m n c1 c2),(1,pQ 2),(2,.pointer none),(12,mQ l m n c1 c2),(13,pQ 2),(14,sQ 0 l.length c1)] (hQ l m n c1 c2) 3):fN 0 [(0,mQ l m n c1 c2),(1,pQ 2),(2,.pointer none),(13,pQ 2),(14,sQ 0 l.length c1)] (hQ l m n c1 c2) 3 (fun e' h' nx'=>K (eG e') h' nx'):=by
 conv=>whnf
 exact hk
theorem L8 (l:List Pt)(m:List Ed)(n:Int)(c1 c2:Nat)(hl:l.length<=400)(K:KS)(hk:K [(0,mQ l m n c1 c2),(1,pQ 2),(2,.pointer none),(13,pQ 2),(14,sQ 0 l.length c1),(15,iv l.length)] (hQ l m n c1 c2) 3):fN 3 [(0,mQ l m n c1 c2),(1,pQ 2),(2,.pointer none),(13,pQ 2),(14,sQ 0 l.length c1)] (hQ l m n c1 c2) 3 (fun e' h' nx'=>K (eG e') h' nx'):=by
 conv=>whnf
 exact hk
theorem JY (l:List Pt)(m:List Ed)(n:Int)(c1 c2:Nat)(hl:l.length<=400)(K:KS)(hk:K [(0,mQ l m n c1 c2),(1,pQ 2),(2,.pointer none),(3,pQ 3),(13,pQ 2),(14,sQ 0 l.length c1)] ((3,aq 1 [.pointer none])::hQ l m n c1 c2) 4):fN 7 [(0,mQ l m n c1 c2),(1,pQ 2),(2,.pointer none),(13,pQ 2),(14,sQ 0 l.length c1)] (hQ l m n c1 c2) 3 (fun e' h' nx'=>K (eG e') h' nx'):=by
 conv=>whnf
 exact hk
theorem TU (l:List Pt)(m:List Ed)(n:Int)(c1 c2:Nat)(hl:l.length<=400):iO l m n c1 c2 7 [1,2] [(0,mQ l m n c1 c2),(1,pQ 2),(2,.pointer none),(13,pQ 2),(14,sQ 0 l.length c1)] (hQ l m n c1 c2) 3 :=
 RK (k:=6) (done:=[1,2]) rfl (M0 l m n c1 c2 hl) (CR l m n c1 c2 hl) (L8 l m n c1 c2 hl) (P7 l m n c1 c2 hl) (JY l m n c1 c2 hl) (DZ l m n c1 c2 hl)
theorem LD (l:List Pt)(m:List Ed)(n:Int)(c1 c2:Nat)(hl:l.length<=400)(K:KS)(hk:K [(0,mQ l m n c1 c2),(1,pQ 2),(2,.pointer none),(3,pQ 3),(12,mQ l m n c1 c2),(13,pQ 2)] ((3,aq 1 [.pointer none])::hQ l m n c1 c2) 4):fN 0 [(0,mQ l m n c1 c2),(1,pQ 2),(2,.pointer none),(3,pQ 3),(13,pQ 2)] ((3,aq 1 [.pointer none])::hQ l m n c1 c2) 4 (fun e' h' nx'=>K (eG e') h' nx'):=by
 conv=>whnf
 exact hk
theorem KB (l:List Pt)(m:List Ed)(n:Int)(c1 c2:Nat)(hl:l.length<=400)(K:KS)(hk:K [(0,mQ l m n c1 c2),(1,pQ 2),(2,.pointer none),(3,pQ 3),(13,pQ 2),(14,sQ 0 l.length c1)] ((3,aq 1 [.pointer none])::hQ l m n c1 c2) 4):fN 2 [(0,mQ l m n c1 c2),(1,pQ 2),(2,.pointer none),(3,pQ 3),(13,pQ 2)] ((3,aq 1 [.pointer none])::hQ l m n c1 c2) 4 (fun e' h' nx'=>K (eG e') h' nx'):=by
 conv=>whnf
 exact hk
theorem GI (l:List Pt)(m:List Ed)(n:Int)(c1 c2:Nat)(hl:l.length<=400):iO l m n c1 c2 7 [1,7] [(0,mQ l m n c1 c2),(1,pQ 2),(2,.pointer none),(3,pQ 3),(13,pQ 2)] ((3,aq 1 [.pointer none])::hQ l m n c1 c2) 4 :=
 qN (k:=6) (done:=[1,7]) rfl (LD l m n c1 c2 hl) (vD l m n c1 c2 hl) (KB l m n c1 c2 hl) (DZ l m n c1 c2 hl)
theorem N4 (l:List Pt)(m:List Ed)(n:Int)(c1 c2:Nat)(hl:l.length<=400)(K:KS)(hk:K [(0,mQ l m n c1 c2),(1,pQ 2),(2,.pointer none),(12,mQ l m n c1 c2),(13,pQ 2)] (hQ l m n c1 c2) 3):fN 0 [(0,mQ l m n c1 c2),(1,pQ 2),(2,.pointer none),(13,pQ 2)] (hQ l m n c1 c2) 3 (fun e' h' nx'=>K (eG e') h' nx'):=by
 conv=>whnf
 exact hk
theorem NY (l:List Pt)(m:List Ed)(n:Int)(c1 c2:Nat)(hl:l.length<=400)(K:KS)(hk:K [(0,mQ l m n c1 c2),(1,pQ 2),(2,.pointer none),(13,pQ 2),(14,sQ 0 l.length c1)] (hQ l m n c1 c2) 3):fN 2 [(0,mQ l m n c1 c2),(1,pQ 2),(2,.pointer none),(13,pQ 2)] (hQ l m n c1 c2) 3 (fun e' h' nx'=>K (eG e') h' nx'):=by
 conv=>whnf
 exact hk
theorem NV (l:List Pt)(m:List Ed)(n:Int)(c1 c2:Nat)(hl:l.length<=400)(K:KS)(hk:K [(0,mQ l m n c1 c2),(1,pQ 2),(2,.pointer none),(3,pQ 3),(13,pQ 2)] ((3,aq 1 [.pointer none])::hQ l m n c1 c2) 4):fN 7 [(0,mQ l m n c1 c2),(1,pQ 2),(2,.pointer none),(13,pQ 2)] (hQ l m n c1 c2) 3 (fun e' h' nx'=>K (eG e') h' nx'):=by
 conv=>whnf
 exact hk
theorem YD (l:List Pt)(m:List Ed)(n:Int)(c1 c2:Nat)(hl:l.length<=400):iO l m n c1 c2 8 [1] [(0,mQ l m n c1 c2),(1,pQ 2),(2,.pointer none),(13,pQ 2)] (hQ l m n c1 c2) 3 :=
 RK (k:=7) (done:=[1]) rfl (N4 l m n c1 c2 hl) (GF l m n c1 c2 hl) (NY l m n c1 c2 hl) (TU l m n c1 c2 hl) (NV l m n c1 c2 hl) (GI l m n c1 c2 hl)
theorem NS (l:List Pt)(m:List Ed)(n:Int)(c1 c2:Nat)(hl:l.length<=400)(K:KS)(hk:K [(0,mQ l m n c1 c2),(1,pQ 2),(2,.pointer none),(3,pQ 3),(12,mQ l m n c1 c2)] ((3,aq 1 [.pointer none])::hQ l m n c1 c2) 4):fN 0 [(0,mQ l m n c1 c2),(1,pQ 2),(2,.pointer none),(3,pQ 3)] ((3,aq 1 [.pointer none])::hQ l m n c1 c2) 4 (fun e' h' nx'=>K (eG e') h' nx'):=by
 conv=>whnf
 exact hk
theorem NB (l:List Pt)(m:List Ed)(n:Int)(c1 c2:Nat)(hl:l.length<=400)(K:KS)(hk:K [(0,mQ l m n c1 c2),(1,pQ 2),(2,.pointer none),(3,pQ 3),(13,pQ 2)] ((3,aq 1 [.pointer none])::hQ l m n c1 c2) 4):fN 1 [(0,mQ l m n c1 c2),(1,pQ 2),(2,.pointer none),(3,pQ 3)] ((3,aq 1 [.pointer none])::hQ l m n c1 c2) 4 (fun e' h' nx'=>K (eG e') h' nx'):=by
 conv=>whnf
 exact hk
theorem X6 (l:List Pt)(m:List Ed)(n:Int)(c1 c2:Nat)(hl:l.length<=400):iO l m n c1 c2 8 [7] [(0,mQ l m n c1 c2),(1,pQ 2),(2,.pointer none),(3,pQ 3)] ((3,aq 1 [.pointer none])::hQ l m n c1 c2) 4 :=
 qN (k:=7) (done:=[7]) rfl (NS l m n c1 c2 hl) (G0 l m n c1 c2 hl) (NB l m n c1 c2 hl) (GI l m n c1 c2 hl)
theorem R8 (l:List Pt)(m:List Ed)(n:Int)(c1 c2:Nat)(hl:l.length<=400)(K:KS)(hk:K [(0,mQ l m n c1 c2),(1,pQ 2),(2,.pointer none),(12,mQ l m n c1 c2)] (hQ l m n c1 c2) 3):fN 0 [(0,mQ l m n c1 c2),(1,pQ 2),(2,.pointer none)] (hQ l m n c1 c2) 3 (fun e' h' nx'=>K (eG e') h' nx'):=by
 conv=>whnf
 exact hk
theorem R6 (l:List Pt)(m:List Ed)(n:Int)(c1 c2:Nat)(hl:l.length<=400)(K:KS)(hk:K [(0,mQ l m n c1 c2),(1,pQ 2),(2,.pointer none),(13,pQ 2)] (hQ l m n c1 c2) 3):fN 1 [(0,mQ l m n c1 c2),(1,pQ 2),(2,.pointer none)] (hQ l m n c1 c2) 3 (fun e' h' nx'=>K (eG e') h' nx'):=by
 conv=>whnf
 exact hk
theorem Q4 (l:List Pt)(m:List Ed)(n:Int)(c1 c2:Nat)(hl:l.length<=400)(K:KS)(hk:K [(0,mQ l m n c1 c2),(1,pQ 2),(2,.pointer none),(3,pQ 3)] ((3,aq 1 [.pointer none])::hQ l m n c1 c2) 4):fN 7 [(0,mQ l m n c1 c2),(1,pQ 2),(2,.pointer none)] (hQ l m n c1 c2) 3 (fun e' h' nx'=>K (eG e') h' nx'):=by
 conv=>whnf
 exact hk
theorem O4 (l:List Pt)(m:List Ed)(n:Int)(c1 c2:Nat)(hl:l.length<=400):iO l m n c1 c2 9 [] [(0,mQ l m n c1 c2),(1,pQ 2),(2,.pointer none)] (hQ l m n c1 c2) 3 :=
 RK (k:=8) (done:=[]) rfl (R8 l m n c1 c2 hl) (ZJ l m n c1 c2 hl) (R6 l m n c1 c2 hl) (YD l m n c1 c2 hl) (Q4 l m n c1 c2 hl) (X6 l m n c1 c2 hl)
set_option maxHeartbeats 4000000
def dA (l:List Pt)(m:List Ed)(i:Nat):Dt:=⟨(fC l (aU m i).b).1 - (fC l (aU m i).a).1,(fC l (aU m i).b).2 - (fC l (aU m i).a).2,2*i,(aU m i).a,(aU m i).b⟩
def dB (l:List Pt)(m:List Ed)(i:Nat):Dt:=⟨(fC l (aU m i).a).1 - (fC l (aU m i).b).1,(fC l (aU m i).a).2 - (fC l (aU m i).b).2,2*i+1,(aU m i).b,(aU m i).a⟩
def bA (l:List Pt)(m:List Ed):Nat->List Dt
 |0=>[]
 |i+1=>bA l m i++[dA l m i,dB l m i]
theorem bT (l:List Pt)(m:List Ed):∀ i,(bA l m i).length=2*i
 |0=>rfl
 |i+1=>by rw[bA,List.length_append,bT];rfl
def ML (m:List Ed)(c2:Nat)(j:Int):List (Nat × Value):=[(1,ao 2),(3,ao 3),(20,ak 1 m.length c2),(21,iv m.length),(22,iv j)]
def DC (l:List Pt)(m:List Ed)(c1 c2:Nat)(n:Int)(k:Nat)(D:List Dt):Heap :=
 (6,aq 5 (flat wQ.fl D))::(5,aq 1 (rep l.length [aI]))::(3,aq 1 [ao 4])::(4,aq 1 (rZ l.length m.length c1 c2 n (ak 6 k k) (ak 5 l.length l.length) aI)) ::
 (2,dU l.length m.length c1 c2 n)::aS aX bS l m
theorem bm2 {k:Nat}{X Y:Prop}(h:Y):(match(generalizing:=false) Nat.ble (k+2) k with|true=>X|false=>Y):=by
 cases hb:Nat.ble (k+2) k with
 |false=>exact h
 |true=>have:=Nat.le_of_ble_eq_true hb;omega
theorem aB6 {i N s:Nat}{p:Prop}(hN:N=i*s)(hi:i+2<=1000000000)
  (h:aB.A.andB (aB.A.andB ((i+2).ble 1000000000) ((0+i*s).ble N)) (aB.A.andB ((0+i*s).beq N) (Nat.beq s s))=false):p:=by
 exfalso;have h1:(i+2).ble 1000000000=true:=Nat.ble_eq_true_of_le hi;have h2:(0+i*s).ble N=true:=Nat.ble_eq_true_of_le aa;have h3:(0+i*s).beq N=true:=(by rw[hN,Nat.zero_add];exact Nat.beq_refl _);rw[h1,h2,h3,Nat.beq_refl]at h;cases h
theorem KC {α:Type}(E:El α)(o:List α)(x y:α){n:Nat}(hn:n=o.length):((flat E.fl o).drop 0).take (n*E.sz)++(E.fl x++E.fl y)=flat E.fl (o++[x,y]):=by
 subst hn;rw[List.drop_zero,<- aO E o,List.take_length,rY];simp[flat]
theorem A1 {l:List Pt}{m:List Ed}(h:lG l m=true){i:Nat}(hi:i<l.length):0<=(bI l i).1/\(bI l i).1<=10000/\0<=(bI l i).2/\(bI l i).2<=10000:=by
 simp only[lG,af]at h;have h1:=eR h.2.1 hi;simp only[FK,bF,af,ag]at h1;omega
theorem aEg:fG aNF:=ER (lA.cons (TS 1000) .nil).look
def cH (ls:List (List Int))(i:Nat):List Int:=ls.getD i []
theorem yW (ls:List (List Int)){s:Nat}(hs:s<ls.length)(x:List Int)(i:Nat):cH (ls.set s x) i=if i=s then x else cH ls i:=by
 unfold cH;rw[List.getD_eq_getElem?_getD,List.getD_eq_getElem?_getD,List.getElem?_set];by_cases h:s=i
 ·subst h;simp[hs]
 rw[if_neg h,if_neg (fun e=>h e.symm)]
def tN (s i:Nat):Nat:=if i=s then 7 else i+1000
def tV (q:Nat)(l:List Int):Value:=if l.length=0 then aI else .slice (some ⟨q,0,none⟩) l.length l.length
def tC (s:Nat)(ls:List (List Int)):List Value:=(List.range ls.length).map fun i=>tV (tN s i) (cH ls i)
theorem m8 (s:Nat)(ls:List (List Int)):(tC s ls).length=ls.length:=by simp[tC]
theorem CS {s:Nat}{ls:List (List Int)}{i:Nat}(hi:i<ls.length):(tC s ls)[i]? = some (tV (tN s i) (cH ls i)):=by
 unfold tC;rw[List.getElem?_map,List.getElem?_range hi];rfl
theorem LK {s:Nat}{ls:List (List Int)}{i o:Nat}(hi:i<ls.length)(ho:o=i*1):nth (tC s ls) o=some (tV (tN s i) (cH ls i)):=by
 rw[BR,ho,Nat.mul_one];exact CS hi
theorem T7 {cs:List Value}{i o:Nat}{v:Value}(ho:o=i)(hi:i<cs.length):bU cs o [v]=cs.set i v:=by
 subst ho;apply List.ext_getElem?;intro j;rw[T6 (by simp;omega),List.getElem?_set];by_cases e:o=j
 ·subst e;rw[if_pos ⟨ah _,by simp⟩,if_pos rfl,if_pos hi,Nat.sub_self];rfl
 rw[if_neg (by simp;omega),if_neg e]
def ob (L:List Int):bV:=aq 1 (flat aW.fl L)
def tH (s:Nat)(ls:List (List Int)):Nat->Heap
 |0=>[]
 |n+1=>if n=s\/(cH ls n).length=0 then tH s ls n else(n+1000,ob (cH ls n))::tH s ls n
theorem BK {s:Nat}{ls:List (List Int)}:∀{n:Nat} {p:Nat × bV},p∈tH s ls n->∃ i,i<n/\i≠s/\(cH ls i).length≠0/\p=(i+1000,ob (cH ls i))
 |0,p,h=>by cases h
 |n+1,p,h=>by
  unfold tH at h;split at h
  ·obtain⟨i,h1,h2⟩:=BK h;exact⟨i,aa,h2⟩
  rename_i hc;rcases List.mem_cons.1 h with rfl|h
  ·exact⟨n,Nat.lt_succ_self n,fun e=>hc (.inl e),fun e=>hc (.inr e),rfl⟩
  obtain⟨i,h1,h2⟩:=BK h;exact⟨i,aa,h2⟩
theorem bJ {α:Type}{k n:Nat}{v:α}{r:List (Nat × α)}(h:k≠n):aw ((k,v)::r) n=aw r n:=by
 rw[aD];split
 ·rename_i hb;exact absurd (az hb) h
 rfl
theorem mU {s:Nat}{ls:List (List Int)}{i:Nat}(h1:i≠s)(h2:(cH ls i).length≠0):∀{n:Nat},i<n->aw (tH s ls n) (i+1000)=some (ob (cH ls i))
 |0,h=>by omega
 |n+1,h=>by
  unfold tH;by_cases e:i=n
  ·subst e;rw[if_neg (by rintro(e|e);exact h1 e;exact h2 e),aD,Nat.beq_refl]
  split
  ·exact mU h1 h2 aa
  rw[bJ aa];exact mU h1 h2 aa
theorem aIj {s:Nat}{ls:List (List Int)}{k n:Nat}(h:k<1000\/1000+n<=k):aw (tH s ls n) k=none:=by
 cases hl:aw (tH s ls n) k with
 |none=>rfl
 |some o =>
  obtain⟨i,h1,_,_,h2⟩:=BK (aT hl);injection h2 with h2 _;omega
theorem aFM {s:Nat}{ls:List (List Int)}:∀{n:Nat},(∀ i,i<n->(cH ls i).length=0)->tH s ls n=[]
 |0,_=>rfl
 |n+1,h=>by
  unfold tH;rw[if_pos (.inr (h n (Nat.lt_succ_self n)))];exact aFM fun i hi=>h i aa
def op7 (L:List Int):Heap:=if L.length=0 then[]else[(7,ob L)]
def jA (l:List Pt)(m:List Ed)(c1 c2:Nat)(n:Int)(k:Nat)(D:List Dt)(s:Nat)(ls:List (List Int)):Heap :=
 (6,aq 5 (flat wQ.fl D))::(5,aq 1 (tC s ls))::(3,aq 1 [ao 4])::(4,aq 1 (rZ l.length m.length c1 c2 n (ak 6 k k) (ak 5 l.length l.length) aI)) ::
 (2,dU l.length m.length c1 c2 n)::(0,.cells false true aX.sz (flat aX.fl l))::(1,.cells false true bS.sz (flat bS.fl m))::(op7 (cH ls s)++tH s ls ls.length)
def v7 (k:Nat)(j:Int):List (Nat × Value):=[(3,ao 3),(89,ak 6 k k),(90,iv k),(91,iv j)]
theorem aIh {ρ:Nat->Nat}{q a b:Nat}:cB ρ (.slice (some ⟨q,0,none⟩) a b)=.slice (some ⟨ρ q,0,none⟩) a b:=rfl
theorem SA {ρ:Nat->Nat}{q:Nat}{L:List Int}:cB ρ (tV q L)=tV (ρ q) L:=by
 unfold tV;split
 ·rfl
 rfl
theorem aQk {q n:Nat}{L:List Int}(h:q<n):wM n (tV q L):=by
 unfold tV;split
 ·exact bM rfl
 exact⟨h,fun h=>by cases h⟩
theorem KA {s n:Nat}{ls:List (List Int)}(h7:7<n)(hn:ls.length+1000<=n):∀ v∈tC s ls,wM n v:=by
 intro v hv;unfold tC at hv;obtain⟨i,hi,rfl⟩:=List.mem_map.1 hv;have:=List.mem_range.1 hi;refine aQk ?_;unfold tN;split <;> omega
def rh2 (s s':Nat):Nat->Nat:=rn [(7,if s'=s then 2002 else s'+1000),(s+1000,2002)]
theorem PD (s s':Nat):rh2 s s' 7=if s'=s then 2002 else s'+1000:=rfl
theorem aBV {s s' k:Nat}(h:k<7):rh2 s s' k=k:=by
 unfold rh2 rn;rw[bJ aa,bJ aa];rfl
theorem GZ {s s' i:Nat}:rh2 s s' (i+1000)=if i=s then 2002 else i+1000:=by
 unfold rh2 rn;rw[bJ aa];by_cases e:i=s
 ·rw[if_pos e,e,aD,Nat.beq_refl]
 rw[if_neg e,bJ aa];rfl
theorem aOX (s s' i:Nat)(hi:i=s'->s'≠s->i≠s):rh2 s s' (tN s' i)=if i=s then 2002 else i+1000:=by
 unfold tN;by_cases e:i=s'
 ·rw[if_pos e,PD];by_cases e2:s'=s
  ·rw[if_pos e2,if_pos (e.trans e2)]
  rw[if_neg e2,if_neg (hi e e2),e]
 rw[if_neg e,GZ]
def Fx (v:Value):Prop:=(∃ q a b,q<7/\v=.slice (some ⟨q,0,none⟩) a b)\/(∃ q,q<7/\v=.pointer (some ⟨q,0,none⟩))\/gS v=true
theorem Fx.fJ {ρ:Nat->Nat}(hρ:∀ k,k<7->ρ k=k){v:Value}(h:Fx v):cB ρ v=v:=by
 rcases h with⟨q,a,b,hq,rfl⟩|⟨q,hq,rfl⟩|h
 ·rw[aIh,hρ q hq]
 ·show Value.pointer (some ⟨ρ q,0,none⟩)=_;rw[hρ q hq]
 exact oI h
theorem Fx.nm {v:Value}{n:Nat}(hn:7<=n)(h:Fx v):wM n v:=by
 rcases h with⟨q,a,b,hq,rfl⟩|⟨q,hq,rfl⟩|h
 ·exact⟨Nat.lt_of_lt_of_le hq hn,fun h=>by cases h⟩
 ·exact⟨Nat.lt_of_lt_of_le hq hn,rfl⟩
 exact bM h
theorem OH {ρ:Nat->Nat}(hρ:∀ k,k<7->ρ k=k){n:Nat}(hn:7<=n){wr g:Bool}{sz:Nat}{cs:List Value}(h:∀ v∈cs,Fx v):cK ρ n (.cells wr g sz cs) (.cells wr g sz cs):=by
 refine⟨rfl,rfl,rfl,?_,fun v hv=>(h v hv).nm hn⟩
 conv=>lhs;rw[<- List.map_id cs]
 exact List.map_congr_left fun v hv=>((h v hv).fJ hρ).symm
theorem QI {α:Type}(E:El α)(l:List α):∀ v∈flat E.fl l,Fx v:=fun v hv=>.inr (.inr (a9 (aC E l) hv))
theorem aCI {q a b:Nat}(h:q<7):Fx (.slice (some ⟨q,0,none⟩) a b):=.inl ⟨q,a,b,h,rfl⟩
theorem aSm {q:Nat}(h:q<7):Fx (.pointer (some ⟨q,0,none⟩)):=.inr (.inl ⟨q,h,rfl⟩)
theorem aNR {v:Value}(h:gS v=true):Fx v:=.inr (.inr h)
def v5 (l:List Pt)(m:List Ed)(c1 c2:Nat)(n:Int)(k:Nat)(D:List Dt):Heap :=
 [(6,aq 5 (flat wQ.fl D)),(3,aq 1 [ao 4]),(4,aq 1 (rZ l.length m.length c1 c2 n (ak 6 k k) (ak 5 l.length l.length) aI)),
 (2,dU l.length m.length c1 c2 n),(0,.cells false true aX.sz (flat aX.fl l)),(1,.cells false true bS.sz (flat bS.fl m))]
theorem DH {ρ:Nat->Nat}(hρ:∀ k,k<7->ρ k=k){N:Nat}(hN:7<=N){l:List Pt}{m:List Ed}{c1 c2:Nat}{n:Int}{k:Nat}{D:List Dt}:∀ p∈v5 l m c1 c2 n k D,p.1<7/\p.1≠5/\cK ρ N p.2 p.2:=by
 unfold v5;refine ae.2 ⟨⟨ab,Nat.ne_of_beq_eq_false rfl,OH hρ hN (QI _ _)⟩,ae.2 ⟨⟨ab,Nat.ne_of_beq_eq_false rfl,OH hρ hN ?_⟩,ae.2 ⟨⟨ab,Nat.ne_of_beq_eq_false rfl,OH hρ hN ?_⟩,ae.2 ⟨⟨ab,Nat.ne_of_beq_eq_false rfl,OH hρ hN ?_⟩,ae.2 ⟨⟨ab,Nat.ne_of_beq_eq_false rfl,OH hρ hN (QI _ _)⟩,ae.2 ⟨⟨ab,Nat.ne_of_beq_eq_false rfl,OH hρ hN (QI _ _)⟩,fun _ h=>(by cases h)⟩⟩⟩⟩⟩⟩
 ·exact ae.2 ⟨aSm (by decide),fun _ h=>(by cases h)⟩
 ·exact ae.2 ⟨aCI (by decide),ae.2 ⟨aCI (by decide),ae.2 ⟨aNR rfl,ae.2 ⟨aCI (by decide),ae.2 ⟨aCI (by decide),ae.2 ⟨aNR rfl,fun _ h=>(by cases h)⟩⟩⟩⟩⟩⟩
 exact ae.2 ⟨aCI (by decide),ae.2 ⟨aCI (by decide),ae.2 ⟨aNR rfl,fun _ h=>(by cases h)⟩⟩⟩
theorem yX {l:List Pt}{m:List Ed}{c1 c2:Nat}{n:Int}{k:Nat}{D:List Dt}{s:Nat}{ls:List (List Int)}{p:Nat × bV}(h:p∈jA l m c1 c2 n k D s ls) :
  p∈v5 l m c1 c2 n k D\/p=(5,aq 1 (tC s ls))\/((cH ls s).length≠0/\p=(7,ob (cH ls s)))\/∃ i,i<ls.length/\i≠s/\(cH ls i).length≠0/\p=(i+1000,ob (cH ls i)):=by
 unfold jA at h;unfold v5;simp only[List.mem_cons,List.mem_append,List.not_mem_nil,or_false]at h ⊢;rcases h with h|h|h|h|h|h|h|h|h
 ·exact .inl (.inl h)
 ·exact .inr (.inl h)
 ·exact .inl (.inr (.inl h))
 ·exact .inl (.inr (.inr (.inl h)))
 ·exact .inl (.inr (.inr (.inr (.inl h))))
 ·exact .inl (.inr (.inr (.inr (.inr (.inl h)))))
 ·exact .inl (.inr (.inr (.inr (.inr (.inr h)))))
 ·unfold op7 at h;split at h
  ·cases h
  rename_i hc;exact .inr (.inr (.inl ⟨hc,by simpa using h⟩))
 obtain⟨i,h1,h2,h3,h4⟩:=BK h;exact .inr (.inr (.inr ⟨i,h1,h2,h3,h4⟩))
theorem F7 {ρ:Nat->Nat}{n:Nat}{L:List Int}:cK ρ n (ob L) (ob L):=aE (aC _ _)
theorem E1 {ρ:Nat->Nat}{s':Nat}{ls':List (List Int)}{cs:List Value}(hl:cs.length=ls'.length)(h:∀ i,i<ls'.length->cs[i]? = some (tV (ρ (tN s' i)) (cH ls' i))):cs=(tC s' ls').map (cB ρ):=by
 apply List.ext_getElem?;intro i;by_cases hi:i<ls'.length
 ·rw[h i hi,List.getElem?_map,CS hi];simp only[Option.map_some,SA]
 rw[List.getElem?_eq_none aa,List.getElem?_eq_none (by rw[List.length_map,m8];omega)]
section
variable {l:List Pt}{m:List Ed}{c1 c2:Nat}{n:Int}{k:Nat}{D:List Dt}{s s' q:Nat}{ls:List (List Int)}{x j:Int}{e:List (Nat × Value)}{h:Heap}{nx:Nat}{I:KS}
theorem aDT {ρ:Nat->Nat}(hρ:∀ k,k<7->ρ k=k)(he:∀ p∈v7 k j,aw e p.1=some p.2):∀ t v,aw (v7 k j) t=some v->aw e t=some (fJ ρ v)/\BO 2000 v:=by
 intro t v hv;have hm:=aT hv;have h1:=he _ hm;unfold v7 at hm;simp only[List.mem_cons,List.not_mem_nil,or_false]at hm;rw[h1];rcases hm with hm|hm|hm|hm <;> (injection hm with _ hm;subst hm)
 ·exact⟨by show some (ao 3)=some (Value.pointer (some ⟨ρ 3,0,none⟩));rw[hρ 3 (by decide)],by decide,rfl⟩
 ·exact⟨by show some (ak 6 k k)=some (Value.slice (some ⟨ρ 6,0,none⟩) k k);rw[hρ 6 (by decide)],by decide,fun h=>by cases h⟩
 ·exact⟨by rw[fJ,iU rfl],c9 rfl⟩
 exact⟨by rw[fJ,iU rfl],c9 rfl⟩
theorem aKx (hs:s<ls.length)(hn:ls.length<=1000)(hI:I (v7 k j) (jA l m c1 c2 n k D s' (ls.set s (cH ls s++[x]))) 2000)(he:∀ p∈v7 k j,aw e p.1=some p.2)
  (hb:∀ p∈v5 l m c1 c2 n k D,aw h p.1=some p.2) (hq:q=(cH ls s).length+1) (h5:aw h 5=some (aq 1 ((tC s ls).set s (ak 2002 q q))))
  (h2:aw h 2002=some (ob (cH ls s++[x]))) (ht:∀ i,i<ls.length->i≠s->(cH ls i).length≠0->aw h (i+1000)=some (ob (cH ls i))):sW 2 I e h nx:=by
 have hat:∀ i,cH (ls.set s (cH ls s++[x])) i=if i=s then cH ls s++[x]else cH ls i:=yW ls hs _
 have hl:(ls.set s (cH ls s++[x])).length=ls.length:=List.length_set;have hρ:∀ k,k<7->rh2 s s' k=k:=fun k hk=>aBV hk;generalize ls.set s (cH ls s++[x])=ls' at hI hat hl;refine⟨v7 k j,jA l m c1 c2 n k D s' ls',2000,rh2 s s',hI,aDT hρ he,?_,?_,fun k hk=>aBV aa,aa⟩
 ·intro k' o hk;rcases yX (aT hk)with hm|hm|⟨h7,hm⟩|⟨i,h1,h3,h4,hm⟩
  ·obtain⟨a1,_,a2⟩:=DH hρ (N:=2000) aa _ hm;simp only at a1 a2;exact⟨aa,o,by rw[hρ k' a1];exact hb _ hm,a2⟩
  ·injection hm with e1 e2;subst e1 e2;refine⟨aa,aq 1 ((tC s ls).set s (ak 2002 q q)),by rw[hρ 5 aa];exact h5,rfl,rfl,rfl,E1 (by rw[List.length_set,m8,hl]) fun i hi=>?_,KA aa aa⟩;rw[hl]at hi;rw[aOX s s' i (fun e1 e2 e3=>e2 (e1.symm.trans e3)),List.getElem?_set,hat];by_cases e1:s=i
   ·subst e1;rw[if_pos rfl,if_pos rfl,if_pos rfl,if_pos (by rw[m8];exact hi)];unfold tV;rw[if_neg (by simp),List.length_append,hq];rfl
   rw[if_neg e1,if_neg (fun e=>e1 e.symm),if_neg (fun e=>e1 e.symm),CS hi];unfold tN;rw[if_neg (fun e=>e1 e.symm)]
  ·injection hm with e1 e2;subst e1 e2;rw[PD,hat];rw[hat]at h7;by_cases e1:s'=s
   ·rw[if_pos e1,if_pos e1];exact⟨aa,_,h2,F7⟩
   rw[if_neg e1,if_neg e1];rw[if_neg e1]at h7;have hs':s'<ls.length:=by
    refine Decidable.byContradiction fun hc=>h7 ?_;unfold cH;rw[List.getD_eq_getElem?_getD,List.getElem?_eq_none aa];rfl
   exact⟨aa,_,ht s' hs' e1 h7,F7⟩
  injection hm with e1 e2;subst e1 e2;rw[hl]at h1;rw[GZ,hat];rw[hat]at h4;by_cases e1:i=s
  ·rw[if_pos e1,if_pos e1];exact⟨aa,_,h2,F7⟩
  rw[if_neg e1,if_neg e1];rw[if_neg e1]at h4;exact⟨aa,_,ht i h1 e1 h4,F7⟩
 have hc:∀{k' o},aw (jA l m c1 c2 n k D s' ls') k'=some o->k'<7\/(k'=7/\(s'≠s->s'<ls.length))\/∃ i,i<ls.length/\i≠s'/\k'=i+1000:=by
  intro k' o hk;rcases yX (aT hk)with hm|hm|⟨h7,hm⟩|⟨i,h1,h3,h4,hm⟩
  ·exact .inl (DH hρ (N:=2000) aa _ hm).1
  ·injection hm with e1 e2;exact .inl aa
  ·injection hm with e1 e2;refine .inr (.inl ⟨e1,fun e2=>Decidable.byContradiction fun hc=>h7 ?_⟩);rw[hat,if_neg e2];unfold cH;rw[List.getD_eq_getElem?_getD,List.getElem?_eq_none aa];rfl
  injection hm with e1 e2;exact .inr (.inr ⟨i,aa,h3,e1⟩)
 intro k1 k2 o1 o2 hk1 hk2 heq;rcases hc hk1 with a1|⟨a1,a2⟩|⟨i1,a1,a2,a3⟩ <;> rcases hc hk2 with b1|⟨b1,b2⟩|⟨i2,b1,b2,b3⟩
 ·rw[hρ _ a1,hρ _ b1]at heq;exact heq
 ·rw[hρ _ a1,b1,PD]at heq;split at heq <;> omega
 ·rw[hρ _ a1,b3,GZ]at heq;split at heq <;> omega
 ·rw[hρ _ b1,a1,PD]at heq;split at heq <;> omega
 ·omega
 ·rw[a1,b3,PD,GZ]at heq;split at heq <;> split at heq <;> omega
 ·rw[hρ _ b1,a3,GZ]at heq;split at heq <;> omega
 ·rw[b1,a3,PD,GZ]at heq;split at heq <;> split at heq <;> omega
 rw[a3,b3,GZ,GZ]at heq;split at heq <;> split at heq <;> omega
end
theorem U8 {A B:List Dt}{i:Nat}(h:i<A.length):cV (A++B) i=cV A i:=by
 unfold cV;rw[List.getD_eq_getElem?_getD,List.getD_eq_getElem?_getD,List.getElem?_append_left h]
theorem V6 {A B:List Dt}{i j:Nat}(h:i=A.length+j):cV (A++B) i=cV B j:=by
 unfold cV;rw[List.getD_eq_getElem?_getD,List.getD_eq_getElem?_getD,List.getElem?_append_right aa,(aa:i - A.length=j)]
theorem E7 (l:List Pt)(m:List Ed):∀{N i:Nat},i<N->cV (bA l m N) (2*i)=dA l m i/\cV (bA l m N) (2*i+1)=dB l m i
 |0,i,h=>by omega
 |N+1,i,h=>by
  have hl:=bT l m N;unfold bA;by_cases e:i=N
  ·subst e;rw[V6 (j:=0) aa,V6 (j:=1) aa];exact⟨rfl,rfl⟩
  rw[U8 aa,U8 aa];exact E7 l m aa
theorem pE {l:List Pt}{m:List Ed}{N i:Nat}(h:i<2*N):(i % 2=0/\cV (bA l m N) i=dA l m (i / 2))\/(i % 2=1/\cV (bA l m N) i=dB l m (i / 2)):=by
 have:=E7 l m (N:=N) (i:=i / 2) aa;by_cases e:i % 2=0
 ·left;rw[(aa:2*(i / 2)=i)]at this;exact⟨e,this.1⟩
 right;rw[(aa:2*(i / 2)+1=i)]at this;exact⟨aa,this.2⟩
theorem oZ {l:List Pt}{m:List Ed}(hM:jS l m=true){i:Nat}(h:i<2*m.length):0<=(cV (bA l m m.length) i).fr/\(cV (bA l m m.length) i).fr<l.length/\0<=(cV (bA l m m.length) i).tt/\(cV (bA l m m.length) i).tt<l.length/\(cV (bA l m m.length) i).no=i:=by
 have he:=nU hM (i:=i / 2) aa;rcases pE (l:=l) (m:=m) h with⟨e,h1⟩|⟨e,h1⟩
 ·rw[h1];simp only[dA];omega
 rw[h1];simp only[dB];omega
theorem TX {l:List Pt}{m:List Ed}(hok:lG l m=true)(hM:jS l m=true):ZG (bA l m m.length)=true:=by
 refine List.all_eq_true.2 fun d hd=>?_;obtain⟨i,hi,rfl⟩:=List.getElem_of_mem hd;rw[<- sH hi];rw[bT]at hi;have he:=nU hM (i:=i / 2) aa;have pa:=A1 hok (i:=(aU m (i / 2)).a.toNat) aa;have pb:=A1 hok (i:=(aU m (i / 2)).b.toNat) aa;rcases pE (l:=l) (m:=m) hi with⟨e,h1⟩|⟨e,h1⟩
 ·rw[h1];unfold wide;simp only[af,ag];simp only[gG,dA,fC];omega
 rw[h1];unfold wide;simp only[af,ag];simp only[gG,dB,fC];omega
def tL (nP:Nat)(D:List Dt):Nat->List (List Int)
 |0=>List.replicate nP []
 |j+1=>(tL nP D j).set (cV D j).fr.toNat (cH (tL nP D j) (cV D j).fr.toNat++[(cV D j).no])
theorem qB (nP:Nat)(D:List Dt):∀ j,(tL nP D j).length=nP
 |0=>List.length_replicate
 |j+1=>by unfold tL;rw[List.length_set];exact qB nP D j
theorem IP (nP:Nat)(D:List Dt):∀(j s:Nat),(∀ i,i<j->(cV D i).fr.toNat<nP)->(cH (tL nP D j) s).length<=j
 |0,s,_=>by
  show(cH (List.replicate nP []) s).length<=0;unfold cH;rw[List.getD_eq_getElem?_getD,List.getElem?_replicate];split <;> exact ah _
 |j+1,s,h=>by
  unfold tL;rw[yW _ (by rw[qB];exact h j (Nat.lt_succ_self j))];split
  ·rename_i e;have:=IP nP D j (cV D j).fr.toNat fun i hi=>h i aa;rw[List.length_append,List.length_singleton];omega
  have:=IP nP D j s fun i hi=>h i aa;omega
theorem YX {k:Nat}{X Y:Prop}(h:Y):(match(generalizing:=false) Nat.ble (k+1) k with|true=>X|false=>Y):=by
 cases hb:Nat.ble (k+1) k with
 |false=>exact h
 |true=>have:=Nat.le_of_ble_eq_true hb;omega
def sD (nP:Nat)(D:List Dt)(i:Nat):Nat:=if i<D.length then(cV D i).fr.toNat else nP
theorem H9 {n i:Nat}:cH (List.replicate n []) i=[]:=by
 unfold cH;rw[List.getD_eq_getElem?_getD,List.getElem?_replicate];split <;> rfl
theorem aLS {n s:Nat}:tC s (List.replicate n [])=List.replicate n aI:=by
 apply List.ext_getElem?;intro i;by_cases hi:i<n
 ·rw[CS (by rw[List.length_replicate];exact hi),List.getElem?_replicate,if_pos hi,H9];rfl
 rw[List.getElem?_eq_none (by rw[m8,List.length_replicate];omega),List.getElem?_eq_none (by rw[List.length_replicate];omega)]
theorem aAW (v:Value):∀ n,rep n [v]=List.replicate n v
 |0=>rfl
 |n+1=>by rw[List.replicate_succ,<- aAW v n];rfl
theorem aJy {l:List Pt}{m:List Ed}{c1 c2:Nat}{n:Int}{k:Nat}{D:List Dt}{s:Nat}:jA l m c1 c2 n k D s (List.replicate l.length [])=DC l m c1 c2 n k D:=by
 unfold jA DC;rw[aLS,H9,aFM (fun i _=>by rw[H9];rfl),aAW];rfl
def SW (D:List Dt)(s j:Nat):List Int:=((List.range j).filter fun i=>decide ((cV D i).fr.toNat=s)).map fun(i:Nat)=>(i:Int)
theorem IC {nP:Nat}{D:List Dt}:∀(j:Nat),(∀ i,i<j->(cV D i).fr.toNat<nP/\(cV D i).no=i)->∀ s,cH (tL nP D j) s=SW D s j
 |0,_,s=>H9
 |j+1,h,s=>by
  have ih:=IC j fun i hi=>h i aa;have hj:=h j (Nat.lt_succ_self j);unfold tL;rw[yW _ (by rw[qB];exact hj.1),ih,ih];unfold SW;rw[List.range_succ,List.filter_append,List.map_append];by_cases e:s=(cV D j).fr.toNat
  ·rw[if_pos e,e,hj.2];congr 1;rw[List.filter_cons_of_pos (by simp)];rfl
  rw[if_neg e,List.filter_cons_of_neg (by simpa using fun h=>e h.symm)];simp
theorem QM {D:List Dt}{s j:Nat}{x:Int}(h:x∈SW D s j):∃ i,i<j/\x=i/\(cV D i).fr.toNat=s:=by
 unfold SW at h;obtain⟨i,hi,rfl⟩:=List.mem_map.1 h;obtain⟨h1,h2⟩:=List.mem_filter.1 hi;exact⟨i,List.mem_range.1 h1,rfl,by simpa using h2⟩
theorem YB {D:List Dt}{s j i:Nat}(h:i<j)(hs:(cV D i).fr.toNat=s):(i:Int)∈SW D s j :=
 List.mem_map.2 ⟨i,List.mem_filter.2 ⟨List.mem_range.2 h,by simpa using hs⟩,rfl⟩
theorem DD (k:List Bool)(x:Nat)(i:Nat)(h:dG (k.set x true) i=true):i=x\/dG k i=true:=by
 unfold dG at h ⊢;rw[List.getD_eq_getElem?_getD,List.getElem?_set]at h;by_cases e:x=i
 ·exact .inl e.symm
 rw[if_neg e,<- List.getD_eq_getElem?_getD]at h;exact .inr h
theorem PI (m:List Ed)(s:List Bool):∀(i p:Nat),dG (nN m s i) p=true->dG s p=true\/∃ e,e<i/\(p=(aU m e).a.toNat\/p=(aU m e).b.toNat)
 |0,p,h=>.inl h
 |i+1,p,h=>by
  unfold nN at h;rcases DD _ _ _ h with e|h
  ·exact .inr ⟨i,Nat.lt_succ_self i,.inr e⟩
  ·rcases DD _ _ _ h with e|h
   ·exact .inr ⟨i,Nat.lt_succ_self i,.inl e⟩
   ·rcases PI m s i p h with h|⟨e,h1,h2⟩
    ·exact .inl h
    exact .inr ⟨e,aa,h2⟩
theorem QO {l:List Pt}{m:List Ed}(hok:lG l m=true){s:Nat}(hs:s<l.length):(SW (bA l m m.length) s (2*m.length)).length≠0:=by
 simp only[lG,af]at hok;have h1:=List.all_eq_true.1 hok.2.2.2;have h2:dG (nN m (List.replicate l.length false) m.length) s=true:=by
  rw[sM (by rw[uF,List.length_replicate];exact hs)];exact h1 _ (List.getElem_mem _)
 rcases PI m _ m.length s h2 with h|⟨e,h3,h4⟩
 ·unfold dG at h;rw[List.getD_eq_getElem?_getD,List.getElem?_replicate]at h;split at h <;> cases h
 have hd:=E7 l m h3;rcases h4 with h4|h4
 ·have:=YB (D:=bA l m m.length) (s:=s) (j:=2*m.length) (i:=2*e) aa (by rw[hd.1,h4];rfl);intro h0;rw[List.eq_nil_of_length_eq_zero h0]at this;cases this
 have:=YB (D:=bA l m m.length) (s:=s) (j:=2*m.length) (i:=2*e+1) aa (by rw[hd.2,h4];rfl);intro h0;rw[List.eq_nil_of_length_eq_zero h0]at this;cases this
theorem KX (m:Nat):∀(k:Nat) (L:List Int) (i j:Nat),(iI m k L i j).length=L.length
 |0,L,i,j=>rfl
 |k+1,L,i,j=>by
  unfold iI;split
  ·exact gV _ _ _ _
  split
  ·rw[KX m k,gV]
  rw[KX m k,gV]
theorem aA8 (L:List Int)(a:Nat):∀ t,(TW L a t).length=L.length
 |0=>rfl
 |t+1=>by unfold TW;rw[jK];exact aA8 L a t
theorem aC7 (L:List Int)(a:Nat):∀ t,(U2 L a t).length=L.length
 |0=>rfl
 |t+1=>by unfold U2;rw[jK];exact aC7 L a t
theorem vG {c:Prop}[Decidable c]{a b:List Int}{n:Nat}(ha:a.length=n)(hb:b.length=n):(if c then a else b).length=n:=by
 split
 ·exact ha
 exact hb
theorem CA (D:CW):∀(k:Nat) (L:List Int) (a m b:Nat),(dQ D k L a m b).length=L.length
 |0,L,_,_,_=>rfl
 |k+1,L,a,m,b=>by
  unfold dQ;refine vG (aA8 _ _ _) (vG (aC7 _ _ _) ?_);simp only;have h1:(if stM D L a m b<m/\m<(a+b) / 2+m - stM D L a m b then iI m (m - stM D L a m b+((a+b) / 2+m - stM D L a m b - m)) L (m - stM D L a m b) ((a+b) / 2+m - stM D L a m b - m)else L).length=L.length:=vG (KX _ _ _ _ _) rfl;have h2:(if a<stM D L a m b/\stM D L a m b<(a+b) / 2 then dQ D k (if stM D L a m b<m/\m<(a+b) / 2+m - stM D L a m b then iI m (m - stM D L a m b+((a+b) / 2+m - stM D L a m b - m)) L (m - stM D L a m b) ((a+b) / 2+m - stM D L a m b - m)else L) a (stM D L a m b) ((a+b) / 2)else(if stM D L a m b<m/\m<(a+b) / 2+m - stM D L a m b then iI m (m - stM D L a m b+((a+b) / 2+m - stM D L a m b - m)) L (m - stM D L a m b) ((a+b) / 2+m - stM D L a m b - m)else L)).length=L.length:=vG ((CA D k _ _ _ _).trans h1) h1;exact vG ((CA D k _ _ _ _).trans h2) h2
theorem VL (D:CW)(n:Nat):∀(k:Nat) (L:List Int) (a:Nat),(nA D n k L a).1.length=L.length
 |0,L,a=>rfl
 |k+1,L,a=>by
  unfold nA;split
  ·rw[VL D n k,tI]
  rfl
theorem UZ (D:CW)(f n bs:Nat):∀(k:Nat) (L:List Int) (a:Nat),(rH D f n bs k L a).1.length=L.length
 |0,L,a=>rfl
 |k+1,L,a=>by
  unfold rH;split
  ·rw[UZ D f n bs k,CA]
  rfl
theorem aGW (D:CW)(f n bs:Nat)(r:List Int × Nat):(rL D f n bs r).length=r.1.length:=by
 unfold rL;exact vG (CA _ _ _ _ _ _) rfl
theorem WB (D:CW)(f n:Nat):∀(k:Nat) (L:List Int) (bs:Nat),(C3 D f n k L bs).length=L.length
 |0,L,bs=>rfl
 |k+1,L,bs=>by
  unfold C3;refine vG ?_ rfl;rw[WB D f n k,aGW,UZ]
theorem qQ (D:CW)(f:Nat)(L:List Int):(kO D f L).length=L.length:=by
 unfold kO;rw[WB,tI,VL]
def srN (D:List Dt)(ls:List (List Int)):Nat->List (List Int)
 |0=>ls
 |i+1=>(srN D ls i).set i (kO D 1000 (cH ls i))
theorem vN (D:List Dt)(ls:List (List Int)):∀ i,(srN D ls i).length=ls.length
 |0=>rfl
 |i+1=>by unfold srN;rw[List.length_set];exact vN D ls i
theorem Y6 (D:List Dt)(ls:List (List Int)):∀{i:Nat},i<=ls.length->∀ s,cH (srN D ls i) s=if s<i then kO D 1000 (cH ls s)else cH ls s
 |0,h,s=>by rw[if_neg aa];rfl
 |i+1,h,s=>by
  have ih:=Y6 D ls (i:=i) aa s;unfold srN;rw[yW _ (by rw[vN];omega),ih];by_cases e:s=i
  ·rw[if_pos e,if_pos aa,e]
  rw[if_neg e];by_cases e2:s<i
  ·rw[if_pos e2,if_pos aa]
  rw[if_neg e2,if_neg aa]
theorem aGJ {s:Nat}{ls ls':List (List Int)}(hl:ls'.length=ls.length)(h:∀ i,i<ls.length->(cH ls' i).length=(cH ls i).length):tC s ls'=tC s ls:=by
 unfold tC;rw[hl];refine List.map_congr_left fun i hi=>?_;unfold tV;rw[h i (List.mem_range.1 hi)]
theorem UE {l:List Pt}{m:List Ed}{c1 c2:Nat}{n:Int}{k:Nat}{D:List Dt}{s:Nat}{ls:List (List Int)}{e0 e:List (Nat × Value)}{h:Heap}{nx:Nat}{I:KS}(hn:ls.length<=1000)(hs:ls.length<=s)(hI:I e0 (jA l m c1 c2 n k D s ls) 2000)
  (he:∀ p∈e0,aw e p.1=some (fJ id p.2)/\BO 2000 p.2) (hb:∀ p∈v5 l m c1 c2 n k D,aw h p.1=some p.2) (h5:aw h 5=some (aq 1 (tC s ls)))
  (ht:∀ i,i<ls.length->(cH ls i).length≠0->aw h (i+1000)=some (ob (cH ls i))):sW 2 I e h nx:=by
 refine⟨e0,jA l m c1 c2 n k D s ls,2000,id,hI,fun t v hv=>he _ (aT hv),fun k' o hk=>?_,fun k' k'' _ _ _ _ h=>h,fun _ _=>rfl,aa⟩;rcases yX (aT hk)with hm|hm|⟨h7,hm⟩|⟨i,h1,h3,h4,hm⟩
 ·obtain⟨a1,_,a2⟩:=DH (ρ:=id) (fun _ _=>rfl) (N:=2000) aa _ hm;simp only at a1 a2;exact⟨aa,o,hb _ hm,a2⟩
 ·injection hm with e1 e2;subst e1 e2;refine⟨aa,aq 1 (tC s ls),h5,rfl,rfl,rfl,E1 (m8 _ _) fun i hi=>CS hi,KA aa aa⟩
 ·exfalso;refine h7 ?_;unfold cH;rw[List.getD_eq_getElem?_getD,List.getElem?_eq_none hs];rfl
 injection hm with e1 e2;subst e1 e2;exact⟨aa,_,ht i h1 h4,F7⟩
def Q0 (l:List Pt)(m:List Ed)(c1 c2:Nat)(n:Int)(k:Nat)(D:List Dt)(ls:List (List Int)):Heap :=
 (4,aq 1 (rZ l.length m.length c1 c2 n (ak 6 k k) (ak 5 l.length l.length) aI))::(6,aq 5 (flat wQ.fl D))::(5,aq 1 (tC ls.length ls)) ::
 (0,.cells false true aX.sz (flat aX.fl l))::(1,.cells false true bS.sz (flat bS.fl m))::tH ls.length ls ls.length
theorem aEZ {l:List Pt}{m:List Ed}{c1 c2:Nat}{n:Int}{k:Nat}{D:List Dt}{s:Nat}{ls:List (List Int)}{h:Heap}{nx:Nat}(hn:ls.length<=1000)(hs:ls.length=s)(hh:h=jA l m c1 c2 n k D s ls):∃ ρ,mF 2 ρ [(0,ao 4)] (Q0 l m c1 c2 n k D ls) 2000 [(0,ao 4)] h nx:=by
 subst hs hh;have hsub:∀ p,p∈Q0 l m c1 c2 n k D ls->p∈jA l m c1 c2 n k D ls.length ls:=by
  intro p hp;unfold Q0 at hp;unfold jA;simp only[List.mem_cons,List.mem_append]at hp ⊢;rcases hp with hp|hp|hp|hp|hp|hp
  ·exact .inr (.inr (.inr (.inl hp)))
  ·exact .inl hp
  ·exact .inr (.inl hp)
  ·exact .inr (.inr (.inr (.inr (.inr (.inl hp)))))
  ·exact .inr (.inr (.inr (.inr (.inr (.inr (.inl hp))))))
  exact .inr (.inr (.inr (.inr (.inr (.inr (.inr (.inr hp)))))))
 have h5:aw (jA l m c1 c2 n k D ls.length ls) 5=some (aq 1 (tC ls.length ls)):=rfl;have hb:∀ p∈v5 l m c1 c2 n k D,aw (jA l m c1 c2 n k D ls.length ls) p.1=some p.2:=by
  unfold v5;exact ae.2 ⟨rfl,ae.2 ⟨rfl,ae.2 ⟨rfl,ae.2 ⟨rfl,ae.2 ⟨rfl,ae.2 ⟨rfl,fun _ h=>(by cases h)⟩⟩⟩⟩⟩⟩
 have h7:(cH ls ls.length).length=0:=by
  unfold cH;rw[List.getD_eq_getElem?_getD,List.getElem?_eq_none (ah _)];rfl
 refine⟨id,fun t v hv=>?_,fun k' o hk=>?_,fun k' k'' _ _ _ _ h=>h,fun _ _=>rfl,aa⟩
 ·have hm:=aT hv;simp only[List.mem_cons,List.not_mem_nil,or_false]at hm;injection hm with e1 e2;subst e1 e2;exact⟨rfl,ab,rfl⟩
 ·rcases yX (hsub _ (aT hk))with hm|hm|⟨h8,hm⟩|⟨i,h1,h3,h4,hm⟩
  ·obtain⟨a1,_,a2⟩:=DH (ρ:=id) (fun _ _=>rfl) (N:=2000) aa _ hm;simp only at a1 a2;exact⟨aa,o,hb _ hm,a2⟩
  ·injection hm with e1 e2;subst e1 e2;refine⟨aa,aq 1 (tC ls.length ls),h5,rfl,rfl,rfl,E1 (m8 _ _) fun i hi=>CS hi,KA aa aa⟩
  ·exact absurd h7 h8
  injection hm with e1 e2;subst e1 e2;refine⟨aa,_,?_,F7⟩;unfold jA
  repeat rw[bJ aa]
  rw[show op7 (cH ls ls.length)=[]from if_pos h7];exact mU h3 h4 h1
theorem n8 {ls:List (List Int)}{s:Nat}(h:ls.length<=s):op7 (cH ls s)=[]:=by
 unfold cH;rw[List.getD_eq_getElem?_getD,List.getElem?_eq_none h];rfl
def outs (l:List Pt)(m:List Ed):List (List Int):=srN (bA l m m.length) (tL l.length (bA l m m.length) (2*m.length)) l.length
theorem fV (l:List Pt)(m:List Ed):(outs l m).length=l.length:=by unfold outs;rw[vN,qB]
theorem PS (s:Nat)(ls:List (List Int)):∀ n,NI (tH s ls n)
 |0=>fun j o hj=>by cases hj
 |n+1=>by
  unfold tH;split
  ·exact PS s ls n
  exact bD (PS s ls n)
theorem aJx {n:Nat}{D:List Dt}{l:List Int}{c:Nat}(h1:l.length<=n)(h2:l.length<=1000000)(h3:inR D l=true)(h4:ZG D=true):zX n D l [] c=some (true,kO D n l):=by
 have h3:kJ (.dirs D) l=true:=h3;have h4:uT (.dirs D)=true:=h4;unfold zX;simp only[h1,h2,h3,h4,decide_true,Bool.and_self]
end Go.Aw
end
