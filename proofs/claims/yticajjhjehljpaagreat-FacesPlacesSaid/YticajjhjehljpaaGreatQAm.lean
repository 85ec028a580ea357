/-
  Parts of a proof. No condition.
-/
import Derived.Test.YticajjhjehljpaaGreatQAl
set_option linter.unusedSimpArgs false
set_option linter.unusedVariables false
noncomputable section
namespace Go.Aw
set_option maxRecDepth 100000
def rn (L:List (Nat × Nat))(k:Nat):Nat:=match look L k with|some q=>q|none=>k
theorem zX {b n0 nx:Nat}{I:KS}{e0 e:List (Nat × Value)}{h0 h:Heap}(L:List (Nat × Nat))(hI:I e0 h0 n0)(he:∀ p∈e0,look e p.1=some (iM (rn L) p.2)∧zR n0 p.2)
  (hh:∀ p∈h0,p.1<n0∧∃ o',look h (rn L p.1)=some o'∧bZ (rn L) n0 p.2 o') (hi:∀ k∈h0.map Prod.fst,∀ k'∈h0.map Prod.fst,rn L k=rn L k'→k=k') (hL:∀ p∈L,b≤p.1) (hb:b≤n0):sT b I e h nx:=by
 refine⟨e0,h0,n0,rn L,hI,fun t v hv=>he (t,v) (aY hv),fun k o hk=>hh (k,o) (aY hk),fun k k' o o' hk hk' e=>hi _ (List.mem_map.2 ⟨_,aY hk,rfl⟩) _ (List.mem_map.2 ⟨_,aY hk',rfl⟩) e,fun k hk=>?_,hb⟩;unfold rn;split
 ·rename_i q hq;have:=hL _ (aY hq);simp only at this;omega
 rfl
def rJ (nP nE:Nat)(c1 c2:Nat)(F:Int)(all out face:Value):List Value:=[.slice (some ⟨0,0,none⟩) nP c1,.slice (some ⟨1,0,none⟩) nE c2,iv F,all,out,face]
def aR:Value:=.slice none 0 0
def tY (l:List Pt)(m:List Ed)(c1 c2:Nat)(n:Int):Heap :=
 (5,.cells true false 1 (rep l.length [aR]))::(3,.cells true false 1 [.pointer (some ⟨4,0,none⟩)])::(4,.cells true false 1 (rJ l.length m.length c1 c2 n aR (.slice (some ⟨5,0,none⟩) l.length l.length) aR)) ::
 (2,cR l.length m.length c1 c2 n)::aL bC bL l m
theorem WQ (n:Nat):dP (rep n [.slice none 0 0])=true:=by
 induction n with
 |zero=>rfl
 |succ n ih=>exact ih
def RU:List (Nat × Value):=[(1,.pointer (some ⟨2,0,none⟩)),(3,.pointer (some ⟨3,0,none⟩))]
def BW (nP nE:Nat)(c1 c2:Nat)(F:Int)(all out face:Value):Value:=.agg #[.slice (some ⟨0,0,none⟩) nP c1,.slice (some ⟨1,0,none⟩) nE c2,iv F,all,out,face]
def aJD (id:Nat)(c:Code):Option (Array Oper) :=
 @Code.rec (fun _=>Option (Array Oper)) none (fun i ops _=>match Nat.beq i id with|true=>some ops|false=>none) (fun _ _ a b=>match a with|some x=>some x|none=>b)
  (fun _ _ _ a b=>match a with|some x=>some x|none=>b) (fun _ _ a=>a) (fun _ a=>a) (fun _ _ _ _ a b=>match a with|some x=>some x|none=>b) (fun _=>none) (fun _ a=>a) (fun _=>none) (fun _=>none) none (fun _=>none) c
def vK:Array Oper:=match Go.Proofs.Tryz.f81.body with|some c=>(match aJD 1 c with|some o=>o|none=>#[])|none=>#[]
def aLD:VC:=CX (look [(104,TV (G6 1000))])
def aOe (l:List Pt)(m:List Ed)(n:Int)(c1 c2:Nat):KS:=fun e h nx=>e=RU∧h=tY l m c1 c2 n∧nx=6
def vst (A:Ar)(T:dD)(C:VC)(Y:VY)(tn:Nat)(ops:List Oper)(j:Nat)(e:List (Nat × Value))(h:Heap)(nx:Nat)(K:KS):Prop:=match gD ops j with|some o=>rM A T C Y tn ops o e h nx K|none=>False
section
variable {A:Ar}{T:dD}{C:VC}{Y:VY}{tn:Nat}{ops:List Oper}{K:KS}{n:Nat}{done:List Nat}{e:List (Nat × Value)}{h:Heap}{nx:Nat}
theorem aHt {i:Nat}(hr:fL ops done ops 0=[i])(h1:vst A T C Y tn ops i e h nx (fun e' h' nx'=>nC A T C Y tn ops K n (vC i done) (dM e') h' nx')):nC A T C Y tn ops K (n+1) done e h nx:=by
 unfold nC;rw [hr];exact h1
theorem aH8 {i j:Nat}(hr:fL ops done ops 0=[i,j])(h1:vst A T C Y tn ops i e h nx (fun e' h' nx'=>nC A T C Y tn ops K n (vC i done) (dM e') h' nx'))(h2:vst A T C Y tn ops j e h nx (fun e' h' nx'=>nC A T C Y tn ops K n (vC j done) (dM e') h' nx')):nC A T C Y tn ops K (n+1) done e h nx:=by
 unfold nC;rw [hr];exact⟨h1,h2⟩
theorem aHV {i j k:Nat}(hr:fL ops done ops 0=[i,j,k])(h1:vst A T C Y tn ops i e h nx (fun e' h' nx'=>nC A T C Y tn ops K n (vC i done) (dM e') h' nx'))(h2:vst A T C Y tn ops j e h nx (fun e' h' nx'=>nC A T C Y tn ops K n (vC j done) (dM e') h' nx'))
  (h3:vst A T C Y tn ops k e h nx (fun e' h' nx'=>nC A T C Y tn ops K n (vC k done) (dM e') h' nx')):nC A T C Y tn ops K (n+1) done e h nx:=by
 unfold nC;rw [hr];exact⟨h1,h2,h3⟩
end
abbrev eS (j:Nat)(e:List (Nat × Value))(h:Heap)(nx:Nat)(K:KS):Prop:=vst aA.A aA.T aLD noY Go.Proofs.Tryz.f81.ntmps vK.toList j e h nx K
structure gK (l:List Pt) (m:List Ed) (n:Int) (c1 c2:Nat) (k:Nat) (done:List Nat) (e:List (Nat × Value)) (h:Heap) (nx:Nat):Prop where
 h:nC aA.A aA.T aLD noY Go.Proofs.Tryz.f81.ntmps vK.toList (sT 2 (aOe l m n c1 c2)) k done e h nx
section
variable {l:List Pt}{m:List Ed}{n:Int}{c1 c2 k:Nat}{done:List Nat}{e e1 e2 e3:List (Nat × Value)}{h h1 h2 h3:Heap}{nx nx1 nx2 nx3 i i2 i3:Nat}
abbrev MO (i:Nat)(e:List (Nat × Value))(h:Heap)(nx:Nat)(e1:List (Nat × Value))(h1:Heap)(nx1:Nat):Prop:=∀ K:KS,K e1 h1 nx1→eS i e h nx (fun e' h' nx'=>K (dM e') h' nx')
theorem lL (hr:fL vK.toList done vK.toList 0=[i])(s1:MO i e h nx e1 h1 nx1)(d1:gK l m n c1 c2 k (vC i done) e1 h1 nx1):gK l m n c1 c2 (k+1) done e h nx:=⟨aHt hr (s1 _ d1.h)⟩
theorem o5 (hr:fL vK.toList done vK.toList 0=[i,i2])(s1:MO i e h nx e1 h1 nx1)(d1:gK l m n c1 c2 k (vC i done) e1 h1 nx1)(s2:MO i2 e h nx e2 h2 nx2)(d2:gK l m n c1 c2 k (vC i2 done) e2 h2 nx2):gK l m n c1 c2 (k+1) done e h nx:=⟨aH8 hr (s1 _ d1.h) (s2 _ d2.h)⟩
theorem O4 (hr:fL vK.toList done vK.toList 0=[i,i2,i3])(s1:MO i e h nx e1 h1 nx1)(d1:gK l m n c1 c2 k (vC i done) e1 h1 nx1)(s2:MO i2 e h nx e2 h2 nx2)(d2:gK l m n c1 c2 k (vC i2 done) e2 h2 nx2)(s3:MO i3 e h nx e3 h3 nx3)(d3:gK l m n c1 c2 k (vC i3 done) e3 h3 nx3):gK l m n c1 c2 (k+1) done e h nx:=⟨aHV hr (s1 _ d1.h) (s2 _ d2.h) (s3 _ d3.h)⟩
end
abbrev pQ (k:Nat):Value:=.pointer (some ⟨k,0,none⟩)
abbrev sQ (k N c:Nat):Value:=.slice (some ⟨k,0,none⟩) N c
abbrev mQ (l:List Pt)(m:List Ed)(n:Int)(c1 c2:Nat):Value:=kI l.length m.length c1 c2 n
abbrev hQ (l:List Pt)(m:List Ed)(n:Int)(c1 c2:Nat):Heap:=(2,cR l.length m.length c1 c2 n)::aL bC bL l m
theorem zI (l:List Pt)(m:List Ed)(n:Int)(c1 c2:Nat)(hl:l.length≤400):gK l m n c1 c2 0 [0,1,2,3,4,5,6,7,8] [(0,mQ l m n c1 c2),(1,pQ 2),(2,.pointer none),(3,pQ 5),(12,mQ l m n c1 c2),(13,pQ 2),(14,sQ 0 l.length c1),(15,iv l.length),(16,sQ 3 l.length l.length),(17,BW l.length m.length c1 c2 n aR (sQ 3 l.length l.length) aR),(18,pQ 4)] ((5,.cells true false 1 [pQ 4])::(4,.cells true false 1 (rJ l.length m.length c1 c2 n aR (sQ 3 l.length l.length) aR))::(3,.cells true false 1 (rep l.length [aR]))::hQ l m n c1 c2) 6 :=
 ⟨zX (e0:=RU) (h0:=tY l m c1 c2 n) (n0:=6) [(3,5),(4,4),(5,3)] ⟨rfl,rfl,rfl⟩ (List.forall_mem_cons.2 ⟨⟨rfl,⟨by decide,rfl⟩⟩,List.forall_mem_cons.2 ⟨⟨rfl,⟨by decide,rfl⟩⟩,fun _ h=>(by cases h)⟩⟩)
  (by
   unfold tY cR aL rJ aR;refine List.forall_mem_cons.2 ⟨⟨Nat.le_of_ble_eq_true rfl,_,rfl,aO (WQ _)⟩,?_⟩;((repeat'(first|refine iF rfl rfl ?_|refine iC rfl rfl rfl ?_|refine iJ rfl rfl rfl rfl ?_));exact iN))
  (by show ∀ k∈[5,3,4,2,0,1],∀ k'∈[5,3,4,2,0,1],_;decide) (by decide) (by decide)⟩
theorem vH (l:List Pt)(m:List Ed)(n:Int)(c1 c2:Nat)(hl:l.length≤400)(K:KS)(hk:K [(0,mQ l m n c1 c2),(1,pQ 2),(2,.pointer none),(3,pQ 5),(12,mQ l m n c1 c2),(13,pQ 2),(14,sQ 0 l.length c1),(15,iv l.length),(16,sQ 3 l.length l.length),(17,BW l.length m.length c1 c2 n aR (sQ 3 l.length l.length) aR),(18,pQ 4)] ((5,.cells true false 1 [pQ 4])::(4,.cells true false 1 (rJ l.length m.length c1 c2 n aR (sQ 3 l.length l.length) aR))::(3,.cells true false 1 (rep l.length [aR]))::hQ l m n c1 c2) 6):eS 8 [(0,mQ l m n c1 c2),(1,pQ 2),(2,.pointer none),(3,pQ 5),(12,mQ l m n c1 c2),(13,pQ 2),(14,sQ 0 l.length c1),(15,iv l.length),(16,sQ 3 l.length l.length),(17,BW l.length m.length c1 c2 n aR (sQ 3 l.length l.length) aR),(18,pQ 4)] ((5,.cells true false 1 [.pointer none])::(4,.cells true false 1 (rJ l.length m.length c1 c2 n aR (sQ 3 l.length l.length) aR))::(3,.cells true false 1 (rep l.length [aR]))::hQ l m n c1 c2) 6 (fun e' h' nx'=>K (dM e') h' nx'):=by
 conv=>whnf
 exact hk
theorem BU (l:List Pt)(m:List Ed)(n:Int)(c1 c2:Nat)(hl:l.length≤400):gK l m n c1 c2 1 [0,1,2,3,4,5,6,7] [(0,mQ l m n c1 c2),(1,pQ 2),(2,.pointer none),(3,pQ 5),(12,mQ l m n c1 c2),(13,pQ 2),(14,sQ 0 l.length c1),(15,iv l.length),(16,sQ 3 l.length l.length),(17,BW l.length m.length c1 c2 n aR (sQ 3 l.length l.length) aR),(18,pQ 4)] ((5,.cells true false 1 [.pointer none])::(4,.cells true false 1 (rJ l.length m.length c1 c2 n aR (sQ 3 l.length l.length) aR))::(3,.cells true false 1 (rep l.length [aR]))::hQ l m n c1 c2) 6 :=
 lL (k:=0) (done:=[0,1,2,3,4,5,6,7]) rfl (vH l m n c1 c2 hl) (zI l m n c1 c2 hl)
theorem xU (l:List Pt)(m:List Ed)(n:Int)(c1 c2:Nat)(hl:l.length≤400)(K:KS)(hk:K [(0,mQ l m n c1 c2),(1,pQ 2),(2,.pointer none),(3,pQ 5),(12,mQ l m n c1 c2),(13,pQ 2),(14,sQ 0 l.length c1),(15,iv l.length),(16,sQ 3 l.length l.length),(17,BW l.length m.length c1 c2 n aR (sQ 3 l.length l.length) aR),(18,pQ 4)] ((5,.cells true false 1 [.pointer none])::(4,.cells true false 1 (rJ l.length m.length c1 c2 n aR (sQ 3 l.length l.length) aR))::(3,.cells true false 1 (rep l.length [aR]))::hQ l m n c1 c2) 6):eS 7 [(0,mQ l m n c1 c2),(1,pQ 2),(2,.pointer none),(12,mQ l m n c1 c2),(13,pQ 2),(14,sQ 0 l.length c1),(15,iv l.length),(16,sQ 3 l.length l.length),(17,BW l.length m.length c1 c2 n aR (sQ 3 l.length l.length) aR),(18,pQ 4)] ((4,.cells true false 1 (rJ l.length m.length c1 c2 n aR (sQ 3 l.length l.length) aR))::(3,.cells true false 1 (rep l.length [aR]))::hQ l m n c1 c2) 5 (fun e' h' nx'=>K (dM e') h' nx'):=by
 conv=>whnf
 exact hk
theorem CT (l:List Pt)(m:List Ed)(n:Int)(c1 c2:Nat)(hl:l.length≤400):gK l m n c1 c2 2 [0,1,2,3,4,5,6] [(0,mQ l m n c1 c2),(1,pQ 2),(2,.pointer none),(12,mQ l m n c1 c2),(13,pQ 2),(14,sQ 0 l.length c1),(15,iv l.length),(16,sQ 3 l.length l.length),(17,BW l.length m.length c1 c2 n aR (sQ 3 l.length l.length) aR),(18,pQ 4)] ((4,.cells true false 1 (rJ l.length m.length c1 c2 n aR (sQ 3 l.length l.length) aR))::(3,.cells true false 1 (rep l.length [aR]))::hQ l m n c1 c2) 5 :=
 lL (k:=1) (done:=[0,1,2,3,4,5,6]) rfl (xU l m n c1 c2 hl) (BU l m n c1 c2 hl)
theorem yO (l:List Pt)(m:List Ed)(n:Int)(c1 c2:Nat)(hl:l.length≤400):gK l m n c1 c2 0 [0,1,2,3,4,5,6,7,8] [(0,mQ l m n c1 c2),(1,pQ 2),(2,.pointer none),(3,pQ 4),(12,mQ l m n c1 c2),(13,pQ 2),(14,sQ 0 l.length c1),(15,iv l.length),(16,sQ 3 l.length l.length),(17,BW l.length m.length c1 c2 n aR (sQ 3 l.length l.length) aR),(18,pQ 5)] ((5,.cells true false 1 (rJ l.length m.length c1 c2 n aR (sQ 3 l.length l.length) aR))::(4,.cells true false 1 [pQ 5])::(3,.cells true false 1 (rep l.length [aR]))::hQ l m n c1 c2) 6 :=
 ⟨zX (e0:=RU) (h0:=tY l m c1 c2 n) (n0:=6) [(3,4),(4,5),(5,3)] ⟨rfl,rfl,rfl⟩ (List.forall_mem_cons.2 ⟨⟨rfl,⟨by decide,rfl⟩⟩,List.forall_mem_cons.2 ⟨⟨rfl,⟨by decide,rfl⟩⟩,fun _ h=>(by cases h)⟩⟩)
  (by
   unfold tY cR aL rJ aR;refine List.forall_mem_cons.2 ⟨⟨Nat.le_of_ble_eq_true rfl,_,rfl,aO (WQ _)⟩,?_⟩;((repeat'(first|refine iF rfl rfl ?_|refine iC rfl rfl rfl ?_|refine iJ rfl rfl rfl rfl ?_));exact iN))
  (by show ∀ k∈[5,3,4,2,0,1],∀ k'∈[5,3,4,2,0,1],_;decide) (by decide) (by decide)⟩
theorem u9 (l:List Pt)(m:List Ed)(n:Int)(c1 c2:Nat)(hl:l.length≤400)(K:KS)(hk:K [(0,mQ l m n c1 c2),(1,pQ 2),(2,.pointer none),(3,pQ 4),(12,mQ l m n c1 c2),(13,pQ 2),(14,sQ 0 l.length c1),(15,iv l.length),(16,sQ 3 l.length l.length),(17,BW l.length m.length c1 c2 n aR (sQ 3 l.length l.length) aR),(18,pQ 5)] ((5,.cells true false 1 (rJ l.length m.length c1 c2 n aR (sQ 3 l.length l.length) aR))::(4,.cells true false 1 [pQ 5])::(3,.cells true false 1 (rep l.length [aR]))::hQ l m n c1 c2) 6):eS 8 [(0,mQ l m n c1 c2),(1,pQ 2),(2,.pointer none),(3,pQ 4),(12,mQ l m n c1 c2),(13,pQ 2),(14,sQ 0 l.length c1),(15,iv l.length),(16,sQ 3 l.length l.length),(17,BW l.length m.length c1 c2 n aR (sQ 3 l.length l.length) aR),(18,pQ 5)] ((5,.cells true false 1 (rJ l.length m.length c1 c2 n aR (sQ 3 l.length l.length) aR))::(4,.cells true false 1 [.pointer none])::(3,.cells true false 1 (rep l.length [aR]))::hQ l m n c1 c2) 6 (fun e' h' nx'=>K (dM e') h' nx'):=by
 conv=>whnf
 exact hk
theorem B5 (l:List Pt)(m:List Ed)(n:Int)(c1 c2:Nat)(hl:l.length≤400):gK l m n c1 c2 1 [0,1,2,3,4,5,6,7] [(0,mQ l m n c1 c2),(1,pQ 2),(2,.pointer none),(3,pQ 4),(12,mQ l m n c1 c2),(13,pQ 2),(14,sQ 0 l.length c1),(15,iv l.length),(16,sQ 3 l.length l.length),(17,BW l.length m.length c1 c2 n aR (sQ 3 l.length l.length) aR),(18,pQ 5)] ((5,.cells true false 1 (rJ l.length m.length c1 c2 n aR (sQ 3 l.length l.length) aR))::(4,.cells true false 1 [.pointer none])::(3,.cells true false 1 (rep l.length [aR]))::hQ l m n c1 c2) 6 :=
 lL (k:=0) (done:=[0,1,2,3,4,5,6,7]) rfl (u9 l m n c1 c2 hl) (yO l m n c1 c2 hl)
theorem xN (l:List Pt)(m:List Ed)(n:Int)(c1 c2:Nat)(hl:l.length≤400)(K:KS)(hk:K [(0,mQ l m n c1 c2),(1,pQ 2),(2,.pointer none),(3,pQ 4),(12,mQ l m n c1 c2),(13,pQ 2),(14,sQ 0 l.length c1),(15,iv l.length),(16,sQ 3 l.length l.length),(17,BW l.length m.length c1 c2 n aR (sQ 3 l.length l.length) aR),(18,pQ 5)] ((5,.cells true false 1 (rJ l.length m.length c1 c2 n aR (sQ 3 l.length l.length) aR))::(4,.cells true false 1 [.pointer none])::(3,.cells true false 1 (rep l.length [aR]))::hQ l m n c1 c2) 6):eS 6 [(0,mQ l m n c1 c2),(1,pQ 2),(2,.pointer none),(3,pQ 4),(12,mQ l m n c1 c2),(13,pQ 2),(14,sQ 0 l.length c1),(15,iv l.length),(16,sQ 3 l.length l.length),(17,BW l.length m.length c1 c2 n aR (sQ 3 l.length l.length) aR)] ((4,.cells true false 1 [.pointer none])::(3,.cells true false 1 (rep l.length [aR]))::hQ l m n c1 c2) 5 (fun e' h' nx'=>K (dM e') h' nx'):=by
 conv=>whnf
 exact hk
theorem r9 (l:List Pt)(m:List Ed)(n:Int)(c1 c2:Nat)(hl:l.length≤400):gK l m n c1 c2 2 [0,1,2,3,4,5,7] [(0,mQ l m n c1 c2),(1,pQ 2),(2,.pointer none),(3,pQ 4),(12,mQ l m n c1 c2),(13,pQ 2),(14,sQ 0 l.length c1),(15,iv l.length),(16,sQ 3 l.length l.length),(17,BW l.length m.length c1 c2 n aR (sQ 3 l.length l.length) aR)] ((4,.cells true false 1 [.pointer none])::(3,.cells true false 1 (rep l.length [aR]))::hQ l m n c1 c2) 5 :=
 lL (k:=1) (done:=[0,1,2,3,4,5,7]) rfl (xN l m n c1 c2 hl) (B5 l m n c1 c2 hl)
theorem y0 (l:List Pt)(m:List Ed)(n:Int)(c1 c2:Nat)(hl:l.length≤400)(K:KS)(hk:K [(0,mQ l m n c1 c2),(1,pQ 2),(2,.pointer none),(12,mQ l m n c1 c2),(13,pQ 2),(14,sQ 0 l.length c1),(15,iv l.length),(16,sQ 3 l.length l.length),(17,BW l.length m.length c1 c2 n aR (sQ 3 l.length l.length) aR),(18,pQ 4)] ((4,.cells true false 1 (rJ l.length m.length c1 c2 n aR (sQ 3 l.length l.length) aR))::(3,.cells true false 1 (rep l.length [aR]))::hQ l m n c1 c2) 5):eS 6 [(0,mQ l m n c1 c2),(1,pQ 2),(2,.pointer none),(12,mQ l m n c1 c2),(13,pQ 2),(14,sQ 0 l.length c1),(15,iv l.length),(16,sQ 3 l.length l.length),(17,BW l.length m.length c1 c2 n aR (sQ 3 l.length l.length) aR)] ((3,.cells true false 1 (rep l.length [aR]))::hQ l m n c1 c2) 4 (fun e' h' nx'=>K (dM e') h' nx'):=by
 conv=>whnf
 exact hk
theorem zK (l:List Pt)(m:List Ed)(n:Int)(c1 c2:Nat)(hl:l.length≤400)(K:KS)(hk:K [(0,mQ l m n c1 c2),(1,pQ 2),(2,.pointer none),(3,pQ 4),(12,mQ l m n c1 c2),(13,pQ 2),(14,sQ 0 l.length c1),(15,iv l.length),(16,sQ 3 l.length l.length),(17,BW l.length m.length c1 c2 n aR (sQ 3 l.length l.length) aR)] ((4,.cells true false 1 [.pointer none])::(3,.cells true false 1 (rep l.length [aR]))::hQ l m n c1 c2) 5):eS 7 [(0,mQ l m n c1 c2),(1,pQ 2),(2,.pointer none),(12,mQ l m n c1 c2),(13,pQ 2),(14,sQ 0 l.length c1),(15,iv l.length),(16,sQ 3 l.length l.length),(17,BW l.length m.length c1 c2 n aR (sQ 3 l.length l.length) aR)] ((3,.cells true false 1 (rep l.length [aR]))::hQ l m n c1 c2) 4 (fun e' h' nx'=>K (dM e') h' nx'):=by
 conv=>whnf
 exact hk
theorem EO (l:List Pt)(m:List Ed)(n:Int)(c1 c2:Nat)(hl:l.length≤400):gK l m n c1 c2 3 [0,1,2,3,4,5] [(0,mQ l m n c1 c2),(1,pQ 2),(2,.pointer none),(12,mQ l m n c1 c2),(13,pQ 2),(14,sQ 0 l.length c1),(15,iv l.length),(16,sQ 3 l.length l.length),(17,BW l.length m.length c1 c2 n aR (sQ 3 l.length l.length) aR)] ((3,.cells true false 1 (rep l.length [aR]))::hQ l m n c1 c2) 4 :=
 o5 (k:=2) (done:=[0,1,2,3,4,5]) rfl (y0 l m n c1 c2 hl) (CT l m n c1 c2 hl) (zK l m n c1 c2 hl) (r9 l m n c1 c2 hl)
theorem yU (l:List Pt)(m:List Ed)(n:Int)(c1 c2:Nat)(hl:l.length≤400)(K:KS)(hk:K [(0,mQ l m n c1 c2),(1,pQ 2),(2,.pointer none),(3,pQ 4),(12,mQ l m n c1 c2),(13,pQ 2),(14,sQ 0 l.length c1),(15,iv l.length),(16,sQ 3 l.length l.length),(17,BW l.length m.length c1 c2 n aR (sQ 3 l.length l.length) aR)] ((4,.cells true false 1 [.pointer none])::(3,.cells true false 1 (rep l.length [aR]))::hQ l m n c1 c2) 5):eS 5 [(0,mQ l m n c1 c2),(1,pQ 2),(2,.pointer none),(3,pQ 4),(12,mQ l m n c1 c2),(13,pQ 2),(14,sQ 0 l.length c1),(15,iv l.length),(16,sQ 3 l.length l.length)] ((4,.cells true false 1 [.pointer none])::(3,.cells true false 1 (rep l.length [aR]))::hQ l m n c1 c2) 5 (fun e' h' nx'=>K (dM e') h' nx'):=by
 conv=>whnf
 exact hk
theorem tZ (l:List Pt)(m:List Ed)(n:Int)(c1 c2:Nat)(hl:l.length≤400):gK l m n c1 c2 3 [0,1,2,3,4,7] [(0,mQ l m n c1 c2),(1,pQ 2),(2,.pointer none),(3,pQ 4),(12,mQ l m n c1 c2),(13,pQ 2),(14,sQ 0 l.length c1),(15,iv l.length),(16,sQ 3 l.length l.length)] ((4,.cells true false 1 [.pointer none])::(3,.cells true false 1 (rep l.length [aR]))::hQ l m n c1 c2) 5 :=
 lL (k:=2) (done:=[0,1,2,3,4,7]) rfl (yU l m n c1 c2 hl) (r9 l m n c1 c2 hl)
theorem A8 (l:List Pt)(m:List Ed)(n:Int)(c1 c2:Nat)(hl:l.length≤400)(K:KS)(hk:K [(0,mQ l m n c1 c2),(1,pQ 2),(2,.pointer none),(12,mQ l m n c1 c2),(13,pQ 2),(14,sQ 0 l.length c1),(15,iv l.length),(16,sQ 3 l.length l.length),(17,BW l.length m.length c1 c2 n aR (sQ 3 l.length l.length) aR)] ((3,.cells true false 1 (rep l.length [aR]))::hQ l m n c1 c2) 4):eS 5 [(0,mQ l m n c1 c2),(1,pQ 2),(2,.pointer none),(12,mQ l m n c1 c2),(13,pQ 2),(14,sQ 0 l.length c1),(15,iv l.length),(16,sQ 3 l.length l.length)] ((3,.cells true false 1 (rep l.length [aR]))::hQ l m n c1 c2) 4 (fun e' h' nx'=>K (dM e') h' nx'):=by
 conv=>whnf
 exact hk
theorem AS (l:List Pt)(m:List Ed)(n:Int)(c1 c2:Nat)(hl:l.length≤400)(K:KS)(hk:K [(0,mQ l m n c1 c2),(1,pQ 2),(2,.pointer none),(3,pQ 4),(12,mQ l m n c1 c2),(13,pQ 2),(14,sQ 0 l.length c1),(15,iv l.length),(16,sQ 3 l.length l.length)] ((4,.cells true false 1 [.pointer none])::(3,.cells true false 1 (rep l.length [aR]))::hQ l m n c1 c2) 5):eS 7 [(0,mQ l m n c1 c2),(1,pQ 2),(2,.pointer none),(12,mQ l m n c1 c2),(13,pQ 2),(14,sQ 0 l.length c1),(15,iv l.length),(16,sQ 3 l.length l.length)] ((3,.cells true false 1 (rep l.length [aR]))::hQ l m n c1 c2) 4 (fun e' h' nx'=>K (dM e') h' nx'):=by
 conv=>whnf
 exact hk
theorem uS (l:List Pt)(m:List Ed)(n:Int)(c1 c2:Nat)(hl:l.length≤400):gK l m n c1 c2 4 [0,1,2,3,4] [(0,mQ l m n c1 c2),(1,pQ 2),(2,.pointer none),(12,mQ l m n c1 c2),(13,pQ 2),(14,sQ 0 l.length c1),(15,iv l.length),(16,sQ 3 l.length l.length)] ((3,.cells true false 1 (rep l.length [aR]))::hQ l m n c1 c2) 4 :=
 o5 (k:=3) (done:=[0,1,2,3,4]) rfl (A8 l m n c1 c2 hl) (EO l m n c1 c2 hl) (AS l m n c1 c2 hl) (tZ l m n c1 c2 hl)
theorem zN (l:List Pt)(m:List Ed)(n:Int)(c1 c2:Nat)(hl:l.length≤400):gK l m n c1 c2 0 [0,1,2,3,4,5,6,7,8] [(0,mQ l m n c1 c2),(1,pQ 2),(2,.pointer none),(3,pQ 3),(12,mQ l m n c1 c2),(13,pQ 2),(14,sQ 0 l.length c1),(15,iv l.length),(16,sQ 4 l.length l.length),(17,BW l.length m.length c1 c2 n aR (sQ 4 l.length l.length) aR),(18,pQ 5)] ((5,.cells true false 1 (rJ l.length m.length c1 c2 n aR (sQ 4 l.length l.length) aR))::(4,.cells true false 1 (rep l.length [aR]))::(3,.cells true false 1 [pQ 5])::hQ l m n c1 c2) 6 :=
 ⟨zX (e0:=RU) (h0:=tY l m c1 c2 n) (n0:=6) [(3,3),(4,5),(5,4)] ⟨rfl,rfl,rfl⟩ (List.forall_mem_cons.2 ⟨⟨rfl,⟨by decide,rfl⟩⟩,List.forall_mem_cons.2 ⟨⟨rfl,⟨by decide,rfl⟩⟩,fun _ h=>(by cases h)⟩⟩)
  (by
   unfold tY cR aL rJ aR;refine List.forall_mem_cons.2 ⟨⟨Nat.le_of_ble_eq_true rfl,_,rfl,aO (WQ _)⟩,?_⟩;((repeat'(first|refine iF rfl rfl ?_|refine iC rfl rfl rfl ?_|refine iJ rfl rfl rfl rfl ?_));exact iN))
  (by show ∀ k∈[5,3,4,2,0,1],∀ k'∈[5,3,4,2,0,1],_;decide) (by decide) (by decide)⟩
theorem uH (l:List Pt)(m:List Ed)(n:Int)(c1 c2:Nat)(hl:l.length≤400)(K:KS)(hk:K [(0,mQ l m n c1 c2),(1,pQ 2),(2,.pointer none),(3,pQ 3),(12,mQ l m n c1 c2),(13,pQ 2),(14,sQ 0 l.length c1),(15,iv l.length),(16,sQ 4 l.length l.length),(17,BW l.length m.length c1 c2 n aR (sQ 4 l.length l.length) aR),(18,pQ 5)] ((5,.cells true false 1 (rJ l.length m.length c1 c2 n aR (sQ 4 l.length l.length) aR))::(4,.cells true false 1 (rep l.length [aR]))::(3,.cells true false 1 [pQ 5])::hQ l m n c1 c2) 6):eS 8 [(0,mQ l m n c1 c2),(1,pQ 2),(2,.pointer none),(3,pQ 3),(12,mQ l m n c1 c2),(13,pQ 2),(14,sQ 0 l.length c1),(15,iv l.length),(16,sQ 4 l.length l.length),(17,BW l.length m.length c1 c2 n aR (sQ 4 l.length l.length) aR),(18,pQ 5)] ((5,.cells true false 1 (rJ l.length m.length c1 c2 n aR (sQ 4 l.length l.length) aR))::(4,.cells true false 1 (rep l.length [aR]))::(3,.cells true false 1 [.pointer none])::hQ l m n c1 c2) 6 (fun e' h' nx'=>K (dM e') h' nx'):=by
 conv=>whnf
 exact hk
theorem BE (l:List Pt)(m:List Ed)(n:Int)(c1 c2:Nat)(hl:l.length≤400):gK l m n c1 c2 1 [0,1,2,3,4,5,6,7] [(0,mQ l m n c1 c2),(1,pQ 2),(2,.pointer none),(3,pQ 3),(12,mQ l m n c1 c2),(13,pQ 2),(14,sQ 0 l.length c1),(15,iv l.length),(16,sQ 4 l.length l.length),(17,BW l.length m.length c1 c2 n aR (sQ 4 l.length l.length) aR),(18,pQ 5)] ((5,.cells true false 1 (rJ l.length m.length c1 c2 n aR (sQ 4 l.length l.length) aR))::(4,.cells true false 1 (rep l.length [aR]))::(3,.cells true false 1 [.pointer none])::hQ l m n c1 c2) 6 :=
 lL (k:=0) (done:=[0,1,2,3,4,5,6,7]) rfl (uH l m n c1 c2 hl) (zN l m n c1 c2 hl)
theorem xP (l:List Pt)(m:List Ed)(n:Int)(c1 c2:Nat)(hl:l.length≤400)(K:KS)(hk:K [(0,mQ l m n c1 c2),(1,pQ 2),(2,.pointer none),(3,pQ 3),(12,mQ l m n c1 c2),(13,pQ 2),(14,sQ 0 l.length c1),(15,iv l.length),(16,sQ 4 l.length l.length),(17,BW l.length m.length c1 c2 n aR (sQ 4 l.length l.length) aR),(18,pQ 5)] ((5,.cells true false 1 (rJ l.length m.length c1 c2 n aR (sQ 4 l.length l.length) aR))::(4,.cells true false 1 (rep l.length [aR]))::(3,.cells true false 1 [.pointer none])::hQ l m n c1 c2) 6):eS 6 [(0,mQ l m n c1 c2),(1,pQ 2),(2,.pointer none),(3,pQ 3),(12,mQ l m n c1 c2),(13,pQ 2),(14,sQ 0 l.length c1),(15,iv l.length),(16,sQ 4 l.length l.length),(17,BW l.length m.length c1 c2 n aR (sQ 4 l.length l.length) aR)] ((4,.cells true false 1 (rep l.length [aR]))::(3,.cells true false 1 [.pointer none])::hQ l m n c1 c2) 5 (fun e' h' nx'=>K (dM e') h' nx'):=by
 conv=>whnf
 exact hk
theorem DK (l:List Pt)(m:List Ed)(n:Int)(c1 c2:Nat)(hl:l.length≤400):gK l m n c1 c2 2 [0,1,2,3,4,5,7] [(0,mQ l m n c1 c2),(1,pQ 2),(2,.pointer none),(3,pQ 3),(12,mQ l m n c1 c2),(13,pQ 2),(14,sQ 0 l.length c1),(15,iv l.length),(16,sQ 4 l.length l.length),(17,BW l.length m.length c1 c2 n aR (sQ 4 l.length l.length) aR)] ((4,.cells true false 1 (rep l.length [aR]))::(3,.cells true false 1 [.pointer none])::hQ l m n c1 c2) 5 :=
 lL (k:=1) (done:=[0,1,2,3,4,5,7]) rfl (xP l m n c1 c2 hl) (BE l m n c1 c2 hl)
theorem yT (l:List Pt)(m:List Ed)(n:Int)(c1 c2:Nat)(hl:l.length≤400)(K:KS)(hk:K [(0,mQ l m n c1 c2),(1,pQ 2),(2,.pointer none),(3,pQ 3),(12,mQ l m n c1 c2),(13,pQ 2),(14,sQ 0 l.length c1),(15,iv l.length),(16,sQ 4 l.length l.length),(17,BW l.length m.length c1 c2 n aR (sQ 4 l.length l.length) aR)] ((4,.cells true false 1 (rep l.length [aR]))::(3,.cells true false 1 [.pointer none])::hQ l m n c1 c2) 5):eS 5 [(0,mQ l m n c1 c2),(1,pQ 2),(2,.pointer none),(3,pQ 3),(12,mQ l m n c1 c2),(13,pQ 2),(14,sQ 0 l.length c1),(15,iv l.length),(16,sQ 4 l.length l.length)] ((4,.cells true false 1 (rep l.length [aR]))::(3,.cells true false 1 [.pointer none])::hQ l m n c1 c2) 5 (fun e' h' nx'=>K (dM e') h' nx'):=by
 conv=>whnf
 exact hk
theorem uC (l:List Pt)(m:List Ed)(n:Int)(c1 c2:Nat)(hl:l.length≤400):gK l m n c1 c2 3 [0,1,2,3,4,7] [(0,mQ l m n c1 c2),(1,pQ 2),(2,.pointer none),(3,pQ 3),(12,mQ l m n c1 c2),(13,pQ 2),(14,sQ 0 l.length c1),(15,iv l.length),(16,sQ 4 l.length l.length)] ((4,.cells true false 1 (rep l.length [aR]))::(3,.cells true false 1 [.pointer none])::hQ l m n c1 c2) 5 :=
 lL (k:=2) (done:=[0,1,2,3,4,7]) rfl (yT l m n c1 c2 hl) (DK l m n c1 c2 hl)
theorem AB (l:List Pt)(m:List Ed)(n:Int)(c1 c2:Nat)(hl:l.length≤400)(K:KS)(hk:K [(0,mQ l m n c1 c2),(1,pQ 2),(2,.pointer none),(3,pQ 3),(12,mQ l m n c1 c2),(13,pQ 2),(14,sQ 0 l.length c1),(15,iv l.length),(16,sQ 4 l.length l.length)] ((4,.cells true false 1 (rep l.length [aR]))::(3,.cells true false 1 [.pointer none])::hQ l m n c1 c2) 5):eS 4 [(0,mQ l m n c1 c2),(1,pQ 2),(2,.pointer none),(3,pQ 3),(12,mQ l m n c1 c2),(13,pQ 2),(14,sQ 0 l.length c1),(15,iv l.length)] ((3,.cells true false 1 [.pointer none])::hQ l m n c1 c2) 4 (fun e' h' nx'=>K (dM e') h' nx'):=by
 conv=>whnf
 exact bm (fun _=>hk) (fun g=>by exfalso;simp [aA,aC] at g;omega)
theorem oV (l:List Pt)(m:List Ed)(n:Int)(c1 c2:Nat)(hl:l.length≤400):gK l m n c1 c2 4 [0,1,2,3,7] [(0,mQ l m n c1 c2),(1,pQ 2),(2,.pointer none),(3,pQ 3),(12,mQ l m n c1 c2),(13,pQ 2),(14,sQ 0 l.length c1),(15,iv l.length)] ((3,.cells true false 1 [.pointer none])::hQ l m n c1 c2) 4 :=
 lL (k:=3) (done:=[0,1,2,3,7]) rfl (AB l m n c1 c2 hl) (uC l m n c1 c2 hl)
theorem CU (l:List Pt)(m:List Ed)(n:Int)(c1 c2:Nat)(hl:l.length≤400)(K:KS)(hk:K [(0,mQ l m n c1 c2),(1,pQ 2),(2,.pointer none),(12,mQ l m n c1 c2),(13,pQ 2),(14,sQ 0 l.length c1),(15,iv l.length),(16,sQ 3 l.length l.length)] ((3,.cells true false 1 (rep l.length [aR]))::hQ l m n c1 c2) 4):eS 4 [(0,mQ l m n c1 c2),(1,pQ 2),(2,.pointer none),(12,mQ l m n c1 c2),(13,pQ 2),(14,sQ 0 l.length c1),(15,iv l.length)] (hQ l m n c1 c2) 3 (fun e' h' nx'=>K (dM e') h' nx'):=by
 conv=>whnf
 exact bm (fun _=>hk) (fun g=>by exfalso;simp [aA,aC] at g;omega)
theorem CL (l:List Pt)(m:List Ed)(n:Int)(c1 c2:Nat)(hl:l.length≤400)(K:KS)(hk:K [(0,mQ l m n c1 c2),(1,pQ 2),(2,.pointer none),(3,pQ 3),(12,mQ l m n c1 c2),(13,pQ 2),(14,sQ 0 l.length c1),(15,iv l.length)] ((3,.cells true false 1 [.pointer none])::hQ l m n c1 c2) 4):eS 7 [(0,mQ l m n c1 c2),(1,pQ 2),(2,.pointer none),(12,mQ l m n c1 c2),(13,pQ 2),(14,sQ 0 l.length c1),(15,iv l.length)] (hQ l m n c1 c2) 3 (fun e' h' nx'=>K (dM e') h' nx'):=by
 conv=>whnf
 exact hk
theorem yH (l:List Pt)(m:List Ed)(n:Int)(c1 c2:Nat)(hl:l.length≤400):gK l m n c1 c2 5 [0,1,2,3] [(0,mQ l m n c1 c2),(1,pQ 2),(2,.pointer none),(12,mQ l m n c1 c2),(13,pQ 2),(14,sQ 0 l.length c1),(15,iv l.length)] (hQ l m n c1 c2) 3 :=
 o5 (k:=4) (done:=[0,1,2,3]) rfl (CU l m n c1 c2 hl) (uS l m n c1 c2 hl) (CL l m n c1 c2 hl) (oV l m n c1 c2 hl)
theorem DJ (l:List Pt)(m:List Ed)(n:Int)(c1 c2:Nat)(hl:l.length≤400)(K:KS)(hk:K [(0,mQ l m n c1 c2),(1,pQ 2),(2,.pointer none),(3,pQ 3),(12,mQ l m n c1 c2),(13,pQ 2),(14,sQ 0 l.length c1),(15,iv l.length)] ((3,.cells true false 1 [.pointer none])::hQ l m n c1 c2) 4):eS 3 [(0,mQ l m n c1 c2),(1,pQ 2),(2,.pointer none),(3,pQ 3),(12,mQ l m n c1 c2),(13,pQ 2),(14,sQ 0 l.length c1)] ((3,.cells true false 1 [.pointer none])::hQ l m n c1 c2) 4 (fun e' h' nx'=>K (dM e') h' nx'):=by
 conv=>whnf
 exact hk
theorem qT (l:List Pt)(m:List Ed)(n:Int)(c1 c2:Nat)(hl:l.length≤400):gK l m n c1 c2 5 [0,1,2,7] [(0,mQ l m n c1 c2),(1,pQ 2),(2,.pointer none),(3,pQ 3),(12,mQ l m n c1 c2),(13,pQ 2),(14,sQ 0 l.length c1)] ((3,.cells true false 1 [.pointer none])::hQ l m n c1 c2) 4 :=
 lL (k:=4) (done:=[0,1,2,7]) rfl (DJ l m n c1 c2 hl) (oV l m n c1 c2 hl)
theorem ET (l:List Pt)(m:List Ed)(n:Int)(c1 c2:Nat)(hl:l.length≤400)(K:KS)(hk:K [(0,mQ l m n c1 c2),(1,pQ 2),(2,.pointer none),(12,mQ l m n c1 c2),(13,pQ 2),(14,sQ 0 l.length c1),(15,iv l.length)] (hQ l m n c1 c2) 3):eS 3 [(0,mQ l m n c1 c2),(1,pQ 2),(2,.pointer none),(12,mQ l m n c1 c2),(13,pQ 2),(14,sQ 0 l.length c1)] (hQ l m n c1 c2) 3 (fun e' h' nx'=>K (dM e') h' nx'):=by
 conv=>whnf
 exact hk
theorem E6 (l:List Pt)(m:List Ed)(n:Int)(c1 c2:Nat)(hl:l.length≤400)(K:KS)(hk:K [(0,mQ l m n c1 c2),(1,pQ 2),(2,.pointer none),(3,pQ 3),(12,mQ l m n c1 c2),(13,pQ 2),(14,sQ 0 l.length c1)] ((3,.cells true false 1 [.pointer none])::hQ l m n c1 c2) 4):eS 7 [(0,mQ l m n c1 c2),(1,pQ 2),(2,.pointer none),(12,mQ l m n c1 c2),(13,pQ 2),(14,sQ 0 l.length c1)] (hQ l m n c1 c2) 3 (fun e' h' nx'=>K (dM e') h' nx'):=by
 conv=>whnf
 exact hk
theorem AX (l:List Pt)(m:List Ed)(n:Int)(c1 c2:Nat)(hl:l.length≤400):gK l m n c1 c2 6 [0,1,2] [(0,mQ l m n c1 c2),(1,pQ 2),(2,.pointer none),(12,mQ l m n c1 c2),(13,pQ 2),(14,sQ 0 l.length c1)] (hQ l m n c1 c2) 3 :=
 o5 (k:=5) (done:=[0,1,2]) rfl (ET l m n c1 c2 hl) (yH l m n c1 c2 hl) (E6 l m n c1 c2 hl) (qT l m n c1 c2 hl)
theorem EU (l:List Pt)(m:List Ed)(n:Int)(c1 c2:Nat)(hl:l.length≤400)(K:KS)(hk:K [(0,mQ l m n c1 c2),(1,pQ 2),(2,.pointer none),(3,pQ 3),(12,mQ l m n c1 c2),(13,pQ 2),(14,sQ 0 l.length c1)] ((3,.cells true false 1 [.pointer none])::hQ l m n c1 c2) 4):eS 2 [(0,mQ l m n c1 c2),(1,pQ 2),(2,.pointer none),(3,pQ 3),(12,mQ l m n c1 c2),(13,pQ 2)] ((3,.cells true false 1 [.pointer none])::hQ l m n c1 c2) 4 (fun e' h' nx'=>K (dM e') h' nx'):=by
 conv=>whnf
 exact hk
theorem sW (l:List Pt)(m:List Ed)(n:Int)(c1 c2:Nat)(hl:l.length≤400):gK l m n c1 c2 6 [0,1,7] [(0,mQ l m n c1 c2),(1,pQ 2),(2,.pointer none),(3,pQ 3),(12,mQ l m n c1 c2),(13,pQ 2)] ((3,.cells true false 1 [.pointer none])::hQ l m n c1 c2) 4 :=
 lL (k:=5) (done:=[0,1,7]) rfl (EU l m n c1 c2 hl) (qT l m n c1 c2 hl)
theorem GY (l:List Pt)(m:List Ed)(n:Int)(c1 c2:Nat)(hl:l.length≤400)(K:KS)(hk:K [(0,mQ l m n c1 c2),(1,pQ 2),(2,.pointer none),(12,mQ l m n c1 c2),(13,pQ 2),(14,sQ 0 l.length c1)] (hQ l m n c1 c2) 3):eS 2 [(0,mQ l m n c1 c2),(1,pQ 2),(2,.pointer none),(12,mQ l m n c1 c2),(13,pQ 2)] (hQ l m n c1 c2) 3 (fun e' h' nx'=>K (dM e') h' nx'):=by
 conv=>whnf
 exact hk
theorem HO (l:List Pt)(m:List Ed)(n:Int)(c1 c2:Nat)(hl:l.length≤400)(K:KS)(hk:K [(0,mQ l m n c1 c2),(1,pQ 2),(2,.pointer none),(3,pQ 3),(12,mQ l m n c1 c2),(13,pQ 2)] ((3,.cells true false 1 [.pointer none])::hQ l m n c1 c2) 4):eS 7 [(0,mQ l m n c1 c2),(1,pQ 2),(2,.pointer none),(12,mQ l m n c1 c2),(13,pQ 2)] (hQ l m n c1 c2) 3 (fun e' h' nx'=>K (dM e') h' nx'):=by
 conv=>whnf
 exact hk
theorem DO (l:List Pt)(m:List Ed)(n:Int)(c1 c2:Nat)(hl:l.length≤400):gK l m n c1 c2 7 [0,1] [(0,mQ l m n c1 c2),(1,pQ 2),(2,.pointer none),(12,mQ l m n c1 c2),(13,pQ 2)] (hQ l m n c1 c2) 3 :=
 o5 (k:=6) (done:=[0,1]) rfl (GY l m n c1 c2 hl) (AX l m n c1 c2 hl) (HO l m n c1 c2 hl) (sW l m n c1 c2 hl)
theorem GL (l:List Pt)(m:List Ed)(n:Int)(c1 c2:Nat)(hl:l.length≤400)(K:KS)(hk:K [(0,mQ l m n c1 c2),(1,pQ 2),(2,.pointer none),(3,pQ 3),(12,mQ l m n c1 c2),(13,pQ 2)] ((3,.cells true false 1 [.pointer none])::hQ l m n c1 c2) 4):eS 1 [(0,mQ l m n c1 c2),(1,pQ 2),(2,.pointer none),(3,pQ 3),(12,mQ l m n c1 c2)] ((3,.cells true false 1 [.pointer none])::hQ l m n c1 c2) 4 (fun e' h' nx'=>K (dM e') h' nx'):=by
 conv=>whnf
 exact hk
theorem EA (l:List Pt)(m:List Ed)(n:Int)(c1 c2:Nat)(hl:l.length≤400):gK l m n c1 c2 7 [0,7] [(0,mQ l m n c1 c2),(1,pQ 2),(2,.pointer none),(3,pQ 3),(12,mQ l m n c1 c2)] ((3,.cells true false 1 [.pointer none])::hQ l m n c1 c2) 4 :=
 lL (k:=6) (done:=[0,7]) rfl (GL l m n c1 c2 hl) (sW l m n c1 c2 hl)
theorem KD (l:List Pt)(m:List Ed)(n:Int)(c1 c2:Nat)(hl:l.length≤400)(K:KS)(hk:K [(0,mQ l m n c1 c2),(1,pQ 2),(2,.pointer none),(12,mQ l m n c1 c2),(13,pQ 2)] (hQ l m n c1 c2) 3):eS 1 [(0,mQ l m n c1 c2),(1,pQ 2),(2,.pointer none),(12,mQ l m n c1 c2)] (hQ l m n c1 c2) 3 (fun e' h' nx'=>K (dM e') h' nx'):=by
 conv=>whnf
 exact hk
theorem KL (l:List Pt)(m:List Ed)(n:Int)(c1 c2:Nat)(hl:l.length≤400)(K:KS)(hk:K [(0,mQ l m n c1 c2),(1,pQ 2),(2,.pointer none),(3,pQ 3),(12,mQ l m n c1 c2)] ((3,.cells true false 1 [.pointer none])::hQ l m n c1 c2) 4):eS 7 [(0,mQ l m n c1 c2),(1,pQ 2),(2,.pointer none),(12,mQ l m n c1 c2)] (hQ l m n c1 c2) 3 (fun e' h' nx'=>K (dM e') h' nx'):=by
 conv=>whnf
 exact hk
theorem U8 (l:List Pt)(m:List Ed)(n:Int)(c1 c2:Nat)(hl:l.length≤400):gK l m n c1 c2 8 [0] [(0,mQ l m n c1 c2),(1,pQ 2),(2,.pointer none),(12,mQ l m n c1 c2)] (hQ l m n c1 c2) 3 :=
 o5 (k:=7) (done:=[0]) rfl (KD l m n c1 c2 hl) (DO l m n c1 c2 hl) (KL l m n c1 c2 hl) (EA l m n c1 c2 hl)
theorem A1 (l:List Pt)(m:List Ed)(n:Int)(c1 c2:Nat)(hl:l.length≤400)(K:KS)(hk:K [(0,mQ l m n c1 c2),(1,pQ 2),(2,.pointer none),(3,pQ 4),(12,mQ l m n c1 c2),(13,pQ 2),(14,sQ 0 l.length c1),(15,iv l.length),(16,sQ 3 l.length l.length)] ((4,.cells true false 1 [.pointer none])::(3,.cells true false 1 (rep l.length [aR]))::hQ l m n c1 c2) 5):eS 0 [(0,mQ l m n c1 c2),(1,pQ 2),(2,.pointer none),(3,pQ 4),(13,pQ 2),(14,sQ 0 l.length c1),(15,iv l.length),(16,sQ 3 l.length l.length)] ((4,.cells true false 1 [.pointer none])::(3,.cells true false 1 (rep l.length [aR]))::hQ l m n c1 c2) 5 (fun e' h' nx'=>K (dM e') h' nx'):=by
 conv=>whnf
 exact hk
theorem I0 (l:List Pt)(m:List Ed)(n:Int)(c1 c2:Nat)(hl:l.length≤400):gK l m n c1 c2 4 [1,2,3,4,7] [(0,mQ l m n c1 c2),(1,pQ 2),(2,.pointer none),(3,pQ 4),(13,pQ 2),(14,sQ 0 l.length c1),(15,iv l.length),(16,sQ 3 l.length l.length)] ((4,.cells true false 1 [.pointer none])::(3,.cells true false 1 (rep l.length [aR]))::hQ l m n c1 c2) 5 :=
 lL (k:=3) (done:=[1,2,3,4,7]) rfl (A1 l m n c1 c2 hl) (tZ l m n c1 c2 hl)
theorem C0 (l:List Pt)(m:List Ed)(n:Int)(c1 c2:Nat)(hl:l.length≤400)(K:KS)(hk:K [(0,mQ l m n c1 c2),(1,pQ 2),(2,.pointer none),(12,mQ l m n c1 c2),(13,pQ 2),(14,sQ 0 l.length c1),(15,iv l.length),(16,sQ 3 l.length l.length)] ((3,.cells true false 1 (rep l.length [aR]))::hQ l m n c1 c2) 4):eS 0 [(0,mQ l m n c1 c2),(1,pQ 2),(2,.pointer none),(13,pQ 2),(14,sQ 0 l.length c1),(15,iv l.length),(16,sQ 3 l.length l.length)] ((3,.cells true false 1 (rep l.length [aR]))::hQ l m n c1 c2) 4 (fun e' h' nx'=>K (dM e') h' nx'):=by
 conv=>whnf
 exact hk
theorem DI (l:List Pt)(m:List Ed)(n:Int)(c1 c2:Nat)(hl:l.length≤400)(K:KS)(hk:K [(0,mQ l m n c1 c2),(1,pQ 2),(2,.pointer none),(3,pQ 4),(13,pQ 2),(14,sQ 0 l.length c1),(15,iv l.length),(16,sQ 3 l.length l.length)] ((4,.cells true false 1 [.pointer none])::(3,.cells true false 1 (rep l.length [aR]))::hQ l m n c1 c2) 5):eS 7 [(0,mQ l m n c1 c2),(1,pQ 2),(2,.pointer none),(13,pQ 2),(14,sQ 0 l.length c1),(15,iv l.length),(16,sQ 3 l.length l.length)] ((3,.cells true false 1 (rep l.length [aR]))::hQ l m n c1 c2) 4 (fun e' h' nx'=>K (dM e') h' nx'):=by
 conv=>whnf
 exact hk
theorem KG (l:List Pt)(m:List Ed)(n:Int)(c1 c2:Nat)(hl:l.length≤400):gK l m n c1 c2 5 [1,2,3,4] [(0,mQ l m n c1 c2),(1,pQ 2),(2,.pointer none),(13,pQ 2),(14,sQ 0 l.length c1),(15,iv l.length),(16,sQ 3 l.length l.length)] ((3,.cells true false 1 (rep l.length [aR]))::hQ l m n c1 c2) 4 :=
 o5 (k:=4) (done:=[1,2,3,4]) rfl (C0 l m n c1 c2 hl) (uS l m n c1 c2 hl) (DI l m n c1 c2 hl) (I0 l m n c1 c2 hl)
theorem A6 (l:List Pt)(m:List Ed)(n:Int)(c1 c2:Nat)(hl:l.length≤400)(K:KS)(hk:K [(0,mQ l m n c1 c2),(1,pQ 2),(2,.pointer none),(3,pQ 3),(12,mQ l m n c1 c2),(13,pQ 2),(14,sQ 0 l.length c1),(15,iv l.length),(16,sQ 4 l.length l.length)] ((4,.cells true false 1 (rep l.length [aR]))::(3,.cells true false 1 [.pointer none])::hQ l m n c1 c2) 5):eS 0 [(0,mQ l m n c1 c2),(1,pQ 2),(2,.pointer none),(3,pQ 3),(13,pQ 2),(14,sQ 0 l.length c1),(15,iv l.length),(16,sQ 4 l.length l.length)] ((4,.cells true false 1 (rep l.length [aR]))::(3,.cells true false 1 [.pointer none])::hQ l m n c1 c2) 5 (fun e' h' nx'=>K (dM e') h' nx'):=by
 conv=>whnf
 exact hk
theorem GF (l:List Pt)(m:List Ed)(n:Int)(c1 c2:Nat)(hl:l.length≤400):gK l m n c1 c2 4 [1,2,3,4,7] [(0,mQ l m n c1 c2),(1,pQ 2),(2,.pointer none),(3,pQ 3),(13,pQ 2),(14,sQ 0 l.length c1),(15,iv l.length),(16,sQ 4 l.length l.length)] ((4,.cells true false 1 (rep l.length [aR]))::(3,.cells true false 1 [.pointer none])::hQ l m n c1 c2) 5 :=
 lL (k:=3) (done:=[1,2,3,4,7]) rfl (A6 l m n c1 c2 hl) (uC l m n c1 c2 hl)
theorem DD (l:List Pt)(m:List Ed)(n:Int)(c1 c2:Nat)(hl:l.length≤400)(K:KS)(hk:K [(0,mQ l m n c1 c2),(1,pQ 2),(2,.pointer none),(3,pQ 3),(12,mQ l m n c1 c2),(13,pQ 2),(14,sQ 0 l.length c1),(15,iv l.length)] ((3,.cells true false 1 [.pointer none])::hQ l m n c1 c2) 4):eS 0 [(0,mQ l m n c1 c2),(1,pQ 2),(2,.pointer none),(3,pQ 3),(13,pQ 2),(14,sQ 0 l.length c1),(15,iv l.length)] ((3,.cells true false 1 [.pointer none])::hQ l m n c1 c2) 4 (fun e' h' nx'=>K (dM e') h' nx'):=by
 conv=>whnf
 exact hk
theorem CP (l:List Pt)(m:List Ed)(n:Int)(c1 c2:Nat)(hl:l.length≤400)(K:KS)(hk:K [(0,mQ l m n c1 c2),(1,pQ 2),(2,.pointer none),(3,pQ 3),(13,pQ 2),(14,sQ 0 l.length c1),(15,iv l.length),(16,sQ 4 l.length l.length)] ((4,.cells true false 1 (rep l.length [aR]))::(3,.cells true false 1 [.pointer none])::hQ l m n c1 c2) 5):eS 4 [(0,mQ l m n c1 c2),(1,pQ 2),(2,.pointer none),(3,pQ 3),(13,pQ 2),(14,sQ 0 l.length c1),(15,iv l.length)] ((3,.cells true false 1 [.pointer none])::hQ l m n c1 c2) 4 (fun e' h' nx'=>K (dM e') h' nx'):=by
 conv=>whnf
 exact bm (fun _=>hk) (fun g=>by exfalso;simp [aA,aC] at g;omega)
theorem x9 (l:List Pt)(m:List Ed)(n:Int)(c1 c2:Nat)(hl:l.length≤400):gK l m n c1 c2 5 [1,2,3,7] [(0,mQ l m n c1 c2),(1,pQ 2),(2,.pointer none),(3,pQ 3),(13,pQ 2),(14,sQ 0 l.length c1),(15,iv l.length)] ((3,.cells true false 1 [.pointer none])::hQ l m n c1 c2) 4 :=
 o5 (k:=4) (done:=[1,2,3,7]) rfl (DD l m n c1 c2 hl) (oV l m n c1 c2 hl) (CP l m n c1 c2 hl) (GF l m n c1 c2 hl)
theorem E5 (l:List Pt)(m:List Ed)(n:Int)(c1 c2:Nat)(hl:l.length≤400)(K:KS)(hk:K [(0,mQ l m n c1 c2),(1,pQ 2),(2,.pointer none),(12,mQ l m n c1 c2),(13,pQ 2),(14,sQ 0 l.length c1),(15,iv l.length)] (hQ l m n c1 c2) 3):eS 0 [(0,mQ l m n c1 c2),(1,pQ 2),(2,.pointer none),(13,pQ 2),(14,sQ 0 l.length c1),(15,iv l.length)] (hQ l m n c1 c2) 3 (fun e' h' nx'=>K (dM e') h' nx'):=by
 conv=>whnf
 exact hk
theorem EX (l:List Pt)(m:List Ed)(n:Int)(c1 c2:Nat)(hl:l.length≤400)(K:KS)(hk:K [(0,mQ l m n c1 c2),(1,pQ 2),(2,.pointer none),(13,pQ 2),(14,sQ 0 l.length c1),(15,iv l.length),(16,sQ 3 l.length l.length)] ((3,.cells true false 1 (rep l.length [aR]))::hQ l m n c1 c2) 4):eS 4 [(0,mQ l m n c1 c2),(1,pQ 2),(2,.pointer none),(13,pQ 2),(14,sQ 0 l.length c1),(15,iv l.length)] (hQ l m n c1 c2) 3 (fun e' h' nx'=>K (dM e') h' nx'):=by
 conv=>whnf
 exact bm (fun _=>hk) (fun g=>by exfalso;simp [aA,aC] at g;omega)
theorem EZ (l:List Pt)(m:List Ed)(n:Int)(c1 c2:Nat)(hl:l.length≤400)(K:KS)(hk:K [(0,mQ l m n c1 c2),(1,pQ 2),(2,.pointer none),(3,pQ 3),(13,pQ 2),(14,sQ 0 l.length c1),(15,iv l.length)] ((3,.cells true false 1 [.pointer none])::hQ l m n c1 c2) 4):eS 7 [(0,mQ l m n c1 c2),(1,pQ 2),(2,.pointer none),(13,pQ 2),(14,sQ 0 l.length c1),(15,iv l.length)] (hQ l m n c1 c2) 3 (fun e' h' nx'=>K (dM e') h' nx'):=by
 conv=>whnf
 exact hk
theorem MY (l:List Pt)(m:List Ed)(n:Int)(c1 c2:Nat)(hl:l.length≤400):gK l m n c1 c2 6 [1,2,3] [(0,mQ l m n c1 c2),(1,pQ 2),(2,.pointer none),(13,pQ 2),(14,sQ 0 l.length c1),(15,iv l.length)] (hQ l m n c1 c2) 3 :=
 O4 (k:=5) (done:=[1,2,3]) rfl (E5 l m n c1 c2 hl) (yH l m n c1 c2 hl) (EX l m n c1 c2 hl) (KG l m n c1 c2 hl) (EZ l m n c1 c2 hl) (x9 l m n c1 c2 hl)
theorem EJ (l:List Pt)(m:List Ed)(n:Int)(c1 c2:Nat)(hl:l.length≤400)(K:KS)(hk:K [(0,mQ l m n c1 c2),(1,pQ 2),(2,.pointer none),(3,pQ 3),(12,mQ l m n c1 c2),(13,pQ 2),(14,sQ 0 l.length c1)] ((3,.cells true false 1 [.pointer none])::hQ l m n c1 c2) 4):eS 0 [(0,mQ l m n c1 c2),(1,pQ 2),(2,.pointer none),(3,pQ 3),(13,pQ 2),(14,sQ 0 l.length c1)] ((3,.cells true false 1 [.pointer none])::hQ l m n c1 c2) 4 (fun e' h' nx'=>K (dM e') h' nx'):=by
 conv=>whnf
 exact hk
theorem EN (l:List Pt)(m:List Ed)(n:Int)(c1 c2:Nat)(hl:l.length≤400)(K:KS)(hk:K [(0,mQ l m n c1 c2),(1,pQ 2),(2,.pointer none),(3,pQ 3),(13,pQ 2),(14,sQ 0 l.length c1),(15,iv l.length)] ((3,.cells true false 1 [.pointer none])::hQ l m n c1 c2) 4):eS 3 [(0,mQ l m n c1 c2),(1,pQ 2),(2,.pointer none),(3,pQ 3),(13,pQ 2),(14,sQ 0 l.length c1)] ((3,.cells true false 1 [.pointer none])::hQ l m n c1 c2) 4 (fun e' h' nx'=>K (dM e') h' nx'):=by
 conv=>whnf
 exact hk
theorem A3 (l:List Pt)(m:List Ed)(n:Int)(c1 c2:Nat)(hl:l.length≤400):gK l m n c1 c2 6 [1,2,7] [(0,mQ l m n c1 c2),(1,pQ 2),(2,.pointer none),(3,pQ 3),(13,pQ 2),(14,sQ 0 l.length c1)] ((3,.cells true false 1 [.pointer none])::hQ l m n c1 c2) 4 :=
 o5 (k:=5) (done:=[1,2,7]) rfl (EJ l m n c1 c2 hl) (qT l m n c1 c2 hl) (EN l m n c1 c2 hl) (x9 l m n c1 c2 hl)
theorem GH (l:List Pt)(m:List Ed)(n:Int)(c1 c2:Nat)(hl:l.length≤400)(K:KS)(hk:K [(0,mQ l m n c1 c2),(1,pQ 2),(2,.pointer none),(12,mQ l m n c1 c2),(13,pQ 2),(14,sQ 0 l.length c1)] (hQ l m n c1 c2) 3):eS 0 [(0,mQ l m n c1 c2),(1,pQ 2),(2,.pointer none),(13,pQ 2),(14,sQ 0 l.length c1)] (hQ l m n c1 c2) 3 (fun e' h' nx'=>K (dM e') h' nx'):=by
 conv=>whnf
 exact hk
theorem GB (l:List Pt)(m:List Ed)(n:Int)(c1 c2:Nat)(hl:l.length≤400)(K:KS)(hk:K [(0,mQ l m n c1 c2),(1,pQ 2),(2,.pointer none),(13,pQ 2),(14,sQ 0 l.length c1),(15,iv l.length)] (hQ l m n c1 c2) 3):eS 3 [(0,mQ l m n c1 c2),(1,pQ 2),(2,.pointer none),(13,pQ 2),(14,sQ 0 l.length c1)] (hQ l m n c1 c2) 3 (fun e' h' nx'=>K (dM e') h' nx'):=by
 conv=>whnf
 exact hk
theorem JY (l:List Pt)(m:List Ed)(n:Int)(c1 c2:Nat)(hl:l.length≤400)(K:KS)(hk:K [(0,mQ l m n c1 c2),(1,pQ 2),(2,.pointer none),(3,pQ 3),(13,pQ 2),(14,sQ 0 l.length c1)] ((3,.cells true false 1 [.pointer none])::hQ l m n c1 c2) 4):eS 7 [(0,mQ l m n c1 c2),(1,pQ 2),(2,.pointer none),(13,pQ 2),(14,sQ 0 l.length c1)] (hQ l m n c1 c2) 3 (fun e' h' nx'=>K (dM e') h' nx'):=by
 conv=>whnf
 exact hk
theorem RE (l:List Pt)(m:List Ed)(n:Int)(c1 c2:Nat)(hl:l.length≤400):gK l m n c1 c2 7 [1,2] [(0,mQ l m n c1 c2),(1,pQ 2),(2,.pointer none),(13,pQ 2),(14,sQ 0 l.length c1)] (hQ l m n c1 c2) 3 :=
 O4 (k:=6) (done:=[1,2]) rfl (GH l m n c1 c2 hl) (AX l m n c1 c2 hl) (GB l m n c1 c2 hl) (MY l m n c1 c2 hl) (JY l m n c1 c2 hl) (A3 l m n c1 c2 hl)
theorem HU (l:List Pt)(m:List Ed)(n:Int)(c1 c2:Nat)(hl:l.length≤400)(K:KS)(hk:K [(0,mQ l m n c1 c2),(1,pQ 2),(2,.pointer none),(3,pQ 3),(12,mQ l m n c1 c2),(13,pQ 2)] ((3,.cells true false 1 [.pointer none])::hQ l m n c1 c2) 4):eS 0 [(0,mQ l m n c1 c2),(1,pQ 2),(2,.pointer none),(3,pQ 3),(13,pQ 2)] ((3,.cells true false 1 [.pointer none])::hQ l m n c1 c2) 4 (fun e' h' nx'=>K (dM e') h' nx'):=by
 conv=>whnf
 exact hk
theorem JD (l:List Pt)(m:List Ed)(n:Int)(c1 c2:Nat)(hl:l.length≤400)(K:KS)(hk:K [(0,mQ l m n c1 c2),(1,pQ 2),(2,.pointer none),(3,pQ 3),(13,pQ 2),(14,sQ 0 l.length c1)] ((3,.cells true false 1 [.pointer none])::hQ l m n c1 c2) 4):eS 2 [(0,mQ l m n c1 c2),(1,pQ 2),(2,.pointer none),(3,pQ 3),(13,pQ 2)] ((3,.cells true false 1 [.pointer none])::hQ l m n c1 c2) 4 (fun e' h' nx'=>K (dM e') h' nx'):=by
 conv=>whnf
 exact hk
theorem D1 (l:List Pt)(m:List Ed)(n:Int)(c1 c2:Nat)(hl:l.length≤400):gK l m n c1 c2 7 [1,7] [(0,mQ l m n c1 c2),(1,pQ 2),(2,.pointer none),(3,pQ 3),(13,pQ 2)] ((3,.cells true false 1 [.pointer none])::hQ l m n c1 c2) 4 :=
 o5 (k:=6) (done:=[1,7]) rfl (HU l m n c1 c2 hl) (sW l m n c1 c2 hl) (JD l m n c1 c2 hl) (A3 l m n c1 c2 hl)
theorem KW (l:List Pt)(m:List Ed)(n:Int)(c1 c2:Nat)(hl:l.length≤400)(K:KS)(hk:K [(0,mQ l m n c1 c2),(1,pQ 2),(2,.pointer none),(12,mQ l m n c1 c2),(13,pQ 2)] (hQ l m n c1 c2) 3):eS 0 [(0,mQ l m n c1 c2),(1,pQ 2),(2,.pointer none),(13,pQ 2)] (hQ l m n c1 c2) 3 (fun e' h' nx'=>K (dM e') h' nx'):=by
 conv=>whnf
 exact hk
theorem KR (l:List Pt)(m:List Ed)(n:Int)(c1 c2:Nat)(hl:l.length≤400)(K:KS)(hk:K [(0,mQ l m n c1 c2),(1,pQ 2),(2,.pointer none),(13,pQ 2),(14,sQ 0 l.length c1)] (hQ l m n c1 c2) 3):eS 2 [(0,mQ l m n c1 c2),(1,pQ 2),(2,.pointer none),(13,pQ 2)] (hQ l m n c1 c2) 3 (fun e' h' nx'=>K (dM e') h' nx'):=by
 conv=>whnf
 exact hk
theorem KA (l:List Pt)(m:List Ed)(n:Int)(c1 c2:Nat)(hl:l.length≤400)(K:KS)(hk:K [(0,mQ l m n c1 c2),(1,pQ 2),(2,.pointer none),(3,pQ 3),(13,pQ 2)] ((3,.cells true false 1 [.pointer none])::hQ l m n c1 c2) 4):eS 7 [(0,mQ l m n c1 c2),(1,pQ 2),(2,.pointer none),(13,pQ 2)] (hQ l m n c1 c2) 3 (fun e' h' nx'=>K (dM e') h' nx'):=by
 conv=>whnf
 exact hk
theorem VJ (l:List Pt)(m:List Ed)(n:Int)(c1 c2:Nat)(hl:l.length≤400):gK l m n c1 c2 8 [1] [(0,mQ l m n c1 c2),(1,pQ 2),(2,.pointer none),(13,pQ 2)] (hQ l m n c1 c2) 3 :=
 O4 (k:=7) (done:=[1]) rfl (KW l m n c1 c2 hl) (DO l m n c1 c2 hl) (KR l m n c1 c2 hl) (RE l m n c1 c2 hl) (KA l m n c1 c2 hl) (D1 l m n c1 c2 hl)
theorem KH (l:List Pt)(m:List Ed)(n:Int)(c1 c2:Nat)(hl:l.length≤400)(K:KS)(hk:K [(0,mQ l m n c1 c2),(1,pQ 2),(2,.pointer none),(3,pQ 3),(12,mQ l m n c1 c2)] ((3,.cells true false 1 [.pointer none])::hQ l m n c1 c2) 4):eS 0 [(0,mQ l m n c1 c2),(1,pQ 2),(2,.pointer none),(3,pQ 3)] ((3,.cells true false 1 [.pointer none])::hQ l m n c1 c2) 4 (fun e' h' nx'=>K (dM e') h' nx'):=by
 conv=>whnf
 exact hk
theorem KU (l:List Pt)(m:List Ed)(n:Int)(c1 c2:Nat)(hl:l.length≤400)(K:KS)(hk:K [(0,mQ l m n c1 c2),(1,pQ 2),(2,.pointer none),(3,pQ 3),(13,pQ 2)] ((3,.cells true false 1 [.pointer none])::hQ l m n c1 c2) 4):eS 1 [(0,mQ l m n c1 c2),(1,pQ 2),(2,.pointer none),(3,pQ 3)] ((3,.cells true false 1 [.pointer none])::hQ l m n c1 c2) 4 (fun e' h' nx'=>K (dM e') h' nx'):=by
 conv=>whnf
 exact hk
theorem T1 (l:List Pt)(m:List Ed)(n:Int)(c1 c2:Nat)(hl:l.length≤400):gK l m n c1 c2 8 [7] [(0,mQ l m n c1 c2),(1,pQ 2),(2,.pointer none),(3,pQ 3)] ((3,.cells true false 1 [.pointer none])::hQ l m n c1 c2) 4 :=
 o5 (k:=7) (done:=[7]) rfl (KH l m n c1 c2 hl) (EA l m n c1 c2 hl) (KU l m n c1 c2 hl) (D1 l m n c1 c2 hl)
theorem NQ (l:List Pt)(m:List Ed)(n:Int)(c1 c2:Nat)(hl:l.length≤400)(K:KS)(hk:K [(0,mQ l m n c1 c2),(1,pQ 2),(2,.pointer none),(12,mQ l m n c1 c2)] (hQ l m n c1 c2) 3):eS 0 [(0,mQ l m n c1 c2),(1,pQ 2),(2,.pointer none)] (hQ l m n c1 c2) 3 (fun e' h' nx'=>K (dM e') h' nx'):=by
 conv=>whnf
 exact hk
theorem N6 (l:List Pt)(m:List Ed)(n:Int)(c1 c2:Nat)(hl:l.length≤400)(K:KS)(hk:K [(0,mQ l m n c1 c2),(1,pQ 2),(2,.pointer none),(13,pQ 2)] (hQ l m n c1 c2) 3):eS 1 [(0,mQ l m n c1 c2),(1,pQ 2),(2,.pointer none)] (hQ l m n c1 c2) 3 (fun e' h' nx'=>K (dM e') h' nx'):=by
 conv=>whnf
 exact hk
theorem OO (l:List Pt)(m:List Ed)(n:Int)(c1 c2:Nat)(hl:l.length≤400)(K:KS)(hk:K [(0,mQ l m n c1 c2),(1,pQ 2),(2,.pointer none),(3,pQ 3)] ((3,.cells true false 1 [.pointer none])::hQ l m n c1 c2) 4):eS 7 [(0,mQ l m n c1 c2),(1,pQ 2),(2,.pointer none)] (hQ l m n c1 c2) 3 (fun e' h' nx'=>K (dM e') h' nx'):=by
 conv=>whnf
 exact hk
theorem aAH (l:List Pt)(m:List Ed)(n:Int)(c1 c2:Nat)(hl:l.length≤400):gK l m n c1 c2 9 [] [(0,mQ l m n c1 c2),(1,pQ 2),(2,.pointer none)] (hQ l m n c1 c2) 3 :=
 O4 (k:=8) (done:=[]) rfl (NQ l m n c1 c2 hl) (U8 l m n c1 c2 hl) (N6 l m n c1 c2 hl) (VJ l m n c1 c2 hl) (OO l m n c1 c2 hl) (T1 l m n c1 c2 hl)
set_option maxHeartbeats 4000000
def dA (l:List Pt)(m:List Ed)(i:Nat):Dt:=⟨(eF l (bO m i).b).1 - (eF l (bO m i).a).1,(eF l (bO m i).b).2 - (eF l (bO m i).a).2,2*i,(bO m i).a,(bO m i).b⟩
def dB (l:List Pt)(m:List Ed)(i:Nat):Dt:=⟨(eF l (bO m i).a).1 - (eF l (bO m i).b).1,(eF l (bO m i).a).2 - (eF l (bO m i).b).2,2*i+1,(bO m i).b,(bO m i).a⟩
def aQ (l:List Pt)(m:List Ed):Nat→List Dt
 |0=>[]
 |i+1=>aQ l m i++[dA l m i,dB l m i]
theorem a9 (l:List Pt)(m:List Ed):∀ i,(aQ l m i).length=2*i
 |0=>rfl
 |i+1=>by rw [aQ,List.length_append,a9];rfl
def BD (m:List Ed)(c2:Nat)(j:Int):List (Nat × Value):=[(1,.pointer (some ⟨2,0,none⟩)),(3,.pointer (some ⟨3,0,none⟩)),(20,.slice (some ⟨1,0,none⟩) m.length c2),(21,iv m.length),(22,iv j)]
def BR (l:List Pt)(m:List Ed)(c1 c2:Nat)(n:Int)(k:Nat)(D:List Dt):Heap :=
 (6,.cells true false 5 (flat tW.fl D))::(5,.cells true false 1 (rep l.length [aR]))::(3,.cells true false 1 [.pointer (some ⟨4,0,none⟩)])::(4,.cells true false 1 (rJ l.length m.length c1 c2 n (.slice (some ⟨6,0,none⟩) k k) (.slice (some ⟨5,0,none⟩) l.length l.length) aR)) ::
 (2,cR l.length m.length c1 c2 n)::aL bC bL l m
theorem bm2 {k:Nat}{X Y:Prop}(h:Y):(match (generalizing:=false) Nat.ble (k+2) k with|true=>X|false=>Y):=by
 cases hb:Nat.ble (k+2) k with
 |false=>exact h
 |true=>have:=Nat.le_of_ble_eq_true hb;omega
theorem aHy {i N s:Nat}{p:Prop}(hN:N=i*s)(hi:i+2≤1000000000)
  (h:aA.A.andB (aA.A.andB ((i+2).ble 1000000000) ((0+i*s).ble N)) (aA.A.andB ((0+i*s).beq N) (Nat.beq s s))=false):p:=by
 exfalso;have h1:(i+2).ble 1000000000=true:=Nat.ble_eq_true_of_le hi;have h2:(0+i*s).ble N=true:=Nat.ble_eq_true_of_le (by omega);have h3:(0+i*s).beq N=true:=(by rw [hN,Nat.zero_add];exact Nat.beq_refl _);rw [h1,h2,h3,Nat.beq_refl] at h;cases h
theorem VH {α:Type}(E:El α)(o:List α)(x y:α){n:Nat}(hn:n=o.length):((flat E.fl o).drop 0).take (n*E.sz)++(E.fl x++E.fl y)=flat E.fl (o++[x,y]):=by
 subst hn;rw [List.drop_zero,← bE E o,List.take_length,vT];simp [flat]
theorem mD {l:List Pt}{m:List Ed}{n:Int}(h:cQ l m n=true){i:Nat}(hi:i<l.length):0≤(fA l i).1∧(fA l i).1≤10000∧0≤(fA l i).2∧(fA l i).2≤10000:=by
 simp only [cQ,Bool.and_eq_true] at h;have h1:=eG h.2.1 hi;simp only [EL,aM,Bool.and_eq_true,decide_eq_true_eq] at h1;omega
theorem aLN:eT aLD:=HC (lP.cons (aCY 1000) .nil).look
def bQ (ls:List (List Int))(i:Nat):List Int:=ls.getD i []
theorem xK (ls:List (List Int)){s:Nat}(hs:s<ls.length)(x:List Int)(i:Nat):bQ (ls.set s x) i=if i=s then x else bQ ls i:=by
 unfold bQ;rw [List.getD_eq_getElem?_getD,List.getD_eq_getElem?_getD,List.getElem?_set];by_cases h:s=i
 ·subst h;simp [hs]
 rw [if_neg h,if_neg (fun e=>h e.symm)]
def tN (s i:Nat):Nat:=if i=s then 7 else i+1000
def tV (q:Nat)(l:List Int):Value:=if l.length=0 then aR else .slice (some ⟨q,0,none⟩) l.length l.length
def tC (s:Nat)(ls:List (List Int)):List Value:=(List.range ls.length).map fun i=>tV (tN s i) (bQ ls i)
theorem mJ (s:Nat)(ls:List (List Int)):(tC s ls).length=ls.length:=by simp [tC]
theorem D9 {s:Nat}{ls:List (List Int)}{i:Nat}(hi:i<ls.length):(tC s ls)[i]? = some (tV (tN s i) (bQ ls i)):=by
 unfold tC;rw [List.getElem?_map,List.getElem?_range hi];rfl
theorem I9 {s:Nat}{ls:List (List Int)}{i o:Nat}(hi:i<ls.length)(ho:o=i*1):nth (tC s ls) o=some (tV (tN s i) (bQ ls i)):=by
 rw [y6,ho,Nat.mul_one];exact D9 hi
theorem TR {cs:List Value}{i o:Nat}{v:Value}(ho:o=i)(hi:i<cs.length):eJ cs o [v]=cs.set i v:=by
 subst ho;apply List.ext_getElem?;intro j;rw [RV (by simp;omega),List.getElem?_set];by_cases e:o=j
 ·subst e;rw [if_pos ⟨Nat.le_refl _,by simp⟩,if_pos rfl,if_pos hi,Nat.sub_self];rfl
 rw [if_neg (by simp;omega),if_neg e]
def ob (L:List Int):bV:=.cells true false 1 (flat aT.fl L)
def tH (s:Nat)(ls:List (List Int)):Nat→Heap
 |0=>[]
 |n+1=>if n=s∨(bQ ls n).length=0 then tH s ls n else (n+1000,ob (bQ ls n))::tH s ls n
theorem C8 {s:Nat}{ls:List (List Int)}:∀ {n:Nat} {p:Nat × bV},p∈tH s ls n→∃ i,i<n∧i≠s∧(bQ ls i).length≠0∧p=(i+1000,ob (bQ ls i))
 |0,p,h=>by cases h
 |n+1,p,h=>by
  unfold tH at h;split at h
  ·obtain⟨i,h1,h2⟩:=C8 h;exact⟨i,by omega,h2⟩
  rename_i hc;rcases List.mem_cons.1 h with rfl|h
  ·exact⟨n,Nat.lt_succ_self n,fun e=>hc (.inl e),fun e=>hc (.inr e),rfl⟩
  obtain⟨i,h1,h2⟩:=C8 h;exact⟨i,by omega,h2⟩
theorem bA {α:Type}{k n:Nat}{v:α}{r:List (Nat × α)}(h:k≠n):look ((k,v)::r) n=look r n:=by
 rw [aB];split
 ·rename_i hb;exact absurd (beq_true hb) h
 rfl
theorem lM {s:Nat}{ls:List (List Int)}{i:Nat}(h1:i≠s)(h2:(bQ ls i).length≠0):∀ {n:Nat},i<n→look (tH s ls n) (i+1000)=some (ob (bQ ls i))
 |0,h=>by omega
 |n+1,h=>by
  unfold tH;by_cases e:i=n
  ·subst e;rw [if_neg (by rintro (e|e);exact h1 e;exact h2 e),aB,Nat.beq_refl]
  split
  ·exact lM h1 h2 (by omega)
  rw [bA (by omega)];exact lM h1 h2 (by omega)
theorem aGa {s:Nat}{ls:List (List Int)}{k n:Nat}(h:k<1000∨1000+n≤k):look (tH s ls n) k=none:=by
 cases hl:look (tH s ls n) k with
 |none=>rfl
 |some o =>
  obtain⟨i,h1,_,_,h2⟩:=C8 (aY hl);injection h2 with h2 _;omega
theorem aE6 {s:Nat}{ls:List (List Int)}:∀ {n:Nat},(∀ i,i<n→(bQ ls i).length=0)→tH s ls n=[]
 |0,_=>rfl
 |n+1,h=>by
  unfold tH;rw [if_pos (.inr (h n (Nat.lt_succ_self n)))];exact aE6 fun i hi=>h i (by omega)
def op7 (L:List Int):Heap:=if L.length=0 then [] else [(7,ob L)]
def gW (l:List Pt)(m:List Ed)(c1 c2:Nat)(n:Int)(k:Nat)(D:List Dt)(s:Nat)(ls:List (List Int)):Heap :=
 (6,.cells true false 5 (flat tW.fl D))::(5,.cells true false 1 (tC s ls))::(3,.cells true false 1 [.pointer (some ⟨4,0,none⟩)])::(4,.cells true false 1 (rJ l.length m.length c1 c2 n (.slice (some ⟨6,0,none⟩) k k) (.slice (some ⟨5,0,none⟩) l.length l.length) aR)) ::
 (2,cR l.length m.length c1 c2 n)::(0,.cells false true bC.sz (flat bC.fl l))::(1,.cells false true bL.sz (flat bL.fl m))::(op7 (bQ ls s)++tH s ls ls.length)
def pW (k:Nat)(j:Int):List (Nat × Value):=[(3,.pointer (some ⟨3,0,none⟩)),(89,.slice (some ⟨6,0,none⟩) k k),(90,iv k),(91,iv j)]
theorem aH2 {ρ:Nat→Nat}{q a b:Nat}:bY ρ (.slice (some ⟨q,0,none⟩) a b)=.slice (some ⟨ρ q,0,none⟩) a b:=rfl
theorem IH {ρ:Nat→Nat}{q:Nat}{L:List Int}:bY ρ (tV q L)=tV (ρ q) L:=by
 unfold tV;split
 ·rfl
 rfl
theorem aMO {q n:Nat}{L:List Int}(h:q<n):E4 n (tV q L):=by
 unfold tV;split
 ·exact cN rfl
 exact⟨h,fun h=>by cases h⟩
theorem L6 {s n:Nat}{ls:List (List Int)}(h7:7<n)(hn:ls.length+1000≤n):∀ v∈tC s ls,E4 n v:=by
 intro v hv;unfold tC at hv;obtain⟨i,hi,rfl⟩:=List.mem_map.1 hv;have:=List.mem_range.1 hi;refine aMO ?_;unfold tN;split <;> omega
def rh2 (s s':Nat):Nat→Nat:=rn [(7,if s'=s then 2002 else s'+1000),(s+1000,2002)]
theorem MG (s s':Nat):rh2 s s' 7=if s'=s then 2002 else s'+1000:=rfl
theorem X4 {s s' k:Nat}(h:k<7):rh2 s s' k=k:=by
 unfold rh2 rn;rw [bA (by omega),bA (by omega)];rfl
theorem D2 {s s' i:Nat}:rh2 s s' (i+1000)=if i=s then 2002 else i+1000:=by
 unfold rh2 rn;rw [bA (by omega)];by_cases e:i=s
 ·rw [if_pos e,e,aB,Nat.beq_refl]
 rw [if_neg e,bA (by omega)];rfl
theorem aOB (s s' i:Nat)(hi:i=s'→s'≠s→i≠s):rh2 s s' (tN s' i)=if i=s then 2002 else i+1000:=by
 unfold tN;by_cases e:i=s'
 ·rw [if_pos e,MG];by_cases e2:s'=s
  ·rw [if_pos e2,if_pos (e.trans e2)]
  rw [if_neg e2,if_neg (hi e e2),e]
 rw [if_neg e,D2]
def Fx (v:Value):Prop:=(∃ q a b,q<7∧v=.slice (some ⟨q,0,none⟩) a b)∨(∃ q,q<7∧v=.pointer (some ⟨q,0,none⟩))∨gS v=true
theorem Fx.iM {ρ:Nat→Nat}(hρ:∀ k,k<7→ρ k=k){v:Value}(h:Fx v):bY ρ v=v:=by
 rcases h with ⟨q,a,b,hq,rfl⟩|⟨q,hq,rfl⟩|h
 ·rw [aH2,hρ q hq]
 ·show Value.pointer (some ⟨ρ q,0,none⟩)=_;rw [hρ q hq]
 exact nH h
theorem Fx.nm {v:Value}{n:Nat}(hn:7≤n)(h:Fx v):E4 n v:=by
 rcases h with ⟨q,a,b,hq,rfl⟩|⟨q,hq,rfl⟩|h
 ·exact⟨Nat.lt_of_lt_of_le hq hn,fun h=>by cases h⟩
 ·exact⟨Nat.lt_of_lt_of_le hq hn,rfl⟩
 exact cN h
theorem K4 {ρ:Nat→Nat}(hρ:∀ k,k<7→ρ k=k){n:Nat}(hn:7≤n){wr g:Bool}{sz:Nat}{cs:List Value}(h:∀ v∈cs,Fx v):bZ ρ n (.cells wr g sz cs) (.cells wr g sz cs):=by
 refine⟨rfl,rfl,rfl,?_,fun v hv=>(h v hv).nm hn⟩
 conv=>lhs;rw [← List.map_id cs]
 exact List.map_congr_left fun v hv=>((h v hv).iM hρ).symm
theorem PI {α:Type}(E:El α)(l:List α):∀ v∈flat E.fl l,Fx v:=fun v hv=>.inr (.inr (aW (aD E l) hv))
theorem aAG {q a b:Nat}(h:q<7):Fx (.slice (some ⟨q,0,none⟩) a b):=.inl ⟨q,a,b,h,rfl⟩
theorem aPV {q:Nat}(h:q<7):Fx (.pointer (some ⟨q,0,none⟩)):=.inr (.inl ⟨q,h,rfl⟩)
theorem aLf {v:Value}(h:gS v=true):Fx v:=.inr (.inr h)
def tU (l:List Pt)(m:List Ed)(c1 c2:Nat)(n:Int)(k:Nat)(D:List Dt):Heap :=
 [(6,.cells true false 5 (flat tW.fl D)),(3,.cells true false 1 [.pointer (some ⟨4,0,none⟩)]),(4,.cells true false 1 (rJ l.length m.length c1 c2 n (.slice (some ⟨6,0,none⟩) k k) (.slice (some ⟨5,0,none⟩) l.length l.length) aR)),
 (2,cR l.length m.length c1 c2 n),(0,.cells false true bC.sz (flat bC.fl l)),(1,.cells false true bL.sz (flat bL.fl m))]
theorem BA {ρ:Nat→Nat}(hρ:∀ k,k<7→ρ k=k){N:Nat}(hN:7≤N){l:List Pt}{m:List Ed}{c1 c2:Nat}{n:Int}{k:Nat}{D:List Dt}:∀ p∈tU l m c1 c2 n k D,p.1<7∧p.1≠5∧bZ ρ N p.2 p.2:=by
 unfold tU;refine List.forall_mem_cons.2 ⟨⟨Nat.le_of_ble_eq_true rfl,Nat.ne_of_beq_eq_false rfl,K4 hρ hN (PI _ _)⟩,List.forall_mem_cons.2 ⟨⟨Nat.le_of_ble_eq_true rfl,Nat.ne_of_beq_eq_false rfl,K4 hρ hN ?_⟩,List.forall_mem_cons.2 ⟨⟨Nat.le_of_ble_eq_true rfl,Nat.ne_of_beq_eq_false rfl,K4 hρ hN ?_⟩,List.forall_mem_cons.2 ⟨⟨Nat.le_of_ble_eq_true rfl,Nat.ne_of_beq_eq_false rfl,K4 hρ hN ?_⟩,List.forall_mem_cons.2 ⟨⟨Nat.le_of_ble_eq_true rfl,Nat.ne_of_beq_eq_false rfl,K4 hρ hN (PI _ _)⟩,List.forall_mem_cons.2 ⟨⟨Nat.le_of_ble_eq_true rfl,Nat.ne_of_beq_eq_false rfl,K4 hρ hN (PI _ _)⟩,fun _ h=>(by cases h)⟩⟩⟩⟩⟩⟩
 ·exact List.forall_mem_cons.2 ⟨aPV (by decide),fun _ h=>(by cases h)⟩
 ·exact List.forall_mem_cons.2 ⟨aAG (by decide),List.forall_mem_cons.2 ⟨aAG (by decide),List.forall_mem_cons.2 ⟨aLf rfl,List.forall_mem_cons.2 ⟨aAG (by decide),List.forall_mem_cons.2 ⟨aAG (by decide),List.forall_mem_cons.2 ⟨aLf rfl,fun _ h=>(by cases h)⟩⟩⟩⟩⟩⟩
 exact List.forall_mem_cons.2 ⟨aAG (by decide),List.forall_mem_cons.2 ⟨aAG (by decide),List.forall_mem_cons.2 ⟨aLf rfl,fun _ h=>(by cases h)⟩⟩⟩
theorem w9 {l:List Pt}{m:List Ed}{c1 c2:Nat}{n:Int}{k:Nat}{D:List Dt}{s:Nat}{ls:List (List Int)}{p:Nat × bV}(h:p∈gW l m c1 c2 n k D s ls) :
  p∈tU l m c1 c2 n k D∨p=(5,.cells true false 1 (tC s ls))∨((bQ ls s).length≠0∧p=(7,ob (bQ ls s)))∨∃ i,i<ls.length∧i≠s∧(bQ ls i).length≠0∧p=(i+1000,ob (bQ ls i)):=by
 unfold gW at h;unfold tU;simp only [List.mem_cons,List.mem_append,List.not_mem_nil,or_false] at h ⊢;rcases h with h|h|h|h|h|h|h|h|h
 ·exact .inl (.inl h)
 ·exact .inr (.inl h)
 ·exact .inl (.inr (.inl h))
 ·exact .inl (.inr (.inr (.inl h)))
 ·exact .inl (.inr (.inr (.inr (.inl h))))
 ·exact .inl (.inr (.inr (.inr (.inr (.inl h)))))
 ·exact .inl (.inr (.inr (.inr (.inr (.inr h)))))
 ·unfold op7 at h;split at h
  ·cases h
  rename_i hc;exact .inr (.inr (.inl ⟨hc,by simpa using h⟩))
 obtain⟨i,h1,h2,h3,h4⟩:=C8 h;exact .inr (.inr (.inr ⟨i,h1,h2,h3,h4⟩))
theorem CY {ρ:Nat→Nat}{n:Nat}{L:List Int}:bZ ρ n (ob L) (ob L):=aO (aD _ _)
theorem G0 {ρ:Nat→Nat}{s':Nat}{ls':List (List Int)}{cs:List Value}(hl:cs.length=ls'.length)(h:∀ i,i<ls'.length→cs[i]? = some (tV (ρ (tN s' i)) (bQ ls' i))):cs=(tC s' ls').map (bY ρ):=by
 apply List.ext_getElem?;intro i;by_cases hi:i<ls'.length
 ·rw [h i hi,List.getElem?_map,D9 hi];simp only [Option.map_some,IH]
 rw [List.getElem?_eq_none (by omega),List.getElem?_eq_none (by rw [List.length_map,mJ];omega)]
section
variable {l:List Pt}{m:List Ed}{c1 c2:Nat}{n:Int}{k:Nat}{D:List Dt}{s s' q:Nat}{ls:List (List Int)}{x j:Int}{e:List (Nat × Value)}{h:Heap}{nx:Nat}{I:KS}
theorem aFu {ρ:Nat→Nat}(hρ:∀ k,k<7→ρ k=k)(he:∀ p∈pW k j,look e p.1=some p.2):∀ t v,look (pW k j) t=some v→look e t=some (iM ρ v)∧zR 2000 v:=by
 intro t v hv;have hm:=aY hv;have h1:=he _ hm;unfold pW at hm;simp only [List.mem_cons,List.not_mem_nil,or_false] at hm;rw [h1];rcases hm with hm|hm|hm|hm <;> (injection hm with _ hm;subst hm)
 ·exact⟨by show some (Value.pointer (some ⟨3,0,none⟩))=some (Value.pointer (some ⟨ρ 3,0,none⟩));rw [hρ 3 (by decide)],by decide,rfl⟩
 ·exact⟨by show some (Value.slice (some ⟨6,0,none⟩) k k)=some (Value.slice (some ⟨ρ 6,0,none⟩) k k);rw [hρ 6 (by decide)],by decide,fun h=>by cases h⟩
 ·exact⟨by rw [iM,jH rfl],cG rfl⟩
 exact⟨by rw [iM,jH rfl],cG rfl⟩
theorem aIR (hs:s<ls.length)(hn:ls.length≤1000)(hI:I (pW k j) (gW l m c1 c2 n k D s' (ls.set s (bQ ls s++[x]))) 2000)(he:∀ p∈pW k j,look e p.1=some p.2)
  (hb:∀ p∈tU l m c1 c2 n k D,look h p.1=some p.2) (hq:q=(bQ ls s).length+1) (h5:look h 5=some (.cells true false 1 ((tC s ls).set s (.slice (some ⟨2002,0,none⟩) q q))))
  (h2:look h 2002=some (ob (bQ ls s++[x]))) (ht:∀ i,i<ls.length→i≠s→(bQ ls i).length≠0→look h (i+1000)=some (ob (bQ ls i))):sT 2 I e h nx:=by
 have hat:∀ i,bQ (ls.set s (bQ ls s++[x])) i=if i=s then bQ ls s++[x] else bQ ls i:=xK ls hs _
 have hl:(ls.set s (bQ ls s++[x])).length=ls.length:=List.length_set;have hρ:∀ k,k<7→rh2 s s' k=k:=fun k hk=>X4 hk;generalize ls.set s (bQ ls s++[x])=ls' at hI hat hl;refine⟨pW k j,gW l m c1 c2 n k D s' ls',2000,rh2 s s',hI,aFu hρ he,?_,?_,fun k hk=>X4 (by omega),by omega⟩
 ·intro k' o hk;rcases w9 (aY hk) with hm|hm|⟨h7,hm⟩|⟨i,h1,h3,h4,hm⟩
  ·obtain⟨a1,_,a2⟩:=BA hρ (N:=2000) (by omega) _ hm;simp only at a1 a2;exact⟨by omega,o,by rw [hρ k' a1];exact hb _ hm,a2⟩
  ·injection hm with e1 e2;subst e1 e2;refine⟨by omega,.cells true false 1 ((tC s ls).set s (.slice (some ⟨2002,0,none⟩) q q)),by rw [hρ 5 (by omega)];exact h5,rfl,rfl,rfl,G0 (by rw [List.length_set,mJ,hl]) fun i hi=>?_,L6 (by omega) (by omega)⟩;rw [hl] at hi;rw [aOB s s' i (fun e1 e2 e3=>e2 (e1.symm.trans e3)),List.getElem?_set,hat];by_cases e1:s=i
   ·subst e1;rw [if_pos rfl,if_pos rfl,if_pos rfl,if_pos (by rw [mJ];exact hi)];unfold tV;rw [if_neg (by simp),List.length_append,hq];rfl
   rw [if_neg e1,if_neg (fun e=>e1 e.symm),if_neg (fun e=>e1 e.symm),D9 hi];unfold tN;rw [if_neg (fun e=>e1 e.symm)]
  ·injection hm with e1 e2;subst e1 e2;rw [MG,hat];rw [hat] at h7;by_cases e1:s'=s
   ·rw [if_pos e1,if_pos e1];exact⟨by omega,_,h2,CY⟩
   rw [if_neg e1,if_neg e1];rw [if_neg e1] at h7;have hs':s'<ls.length:=by
    refine Decidable.byContradiction fun hc=>h7 ?_;unfold bQ;rw [List.getD_eq_getElem?_getD,List.getElem?_eq_none (by omega)];rfl
   exact⟨by omega,_,ht s' hs' e1 h7,CY⟩
  injection hm with e1 e2;subst e1 e2;rw [hl] at h1;rw [D2,hat];rw [hat] at h4;by_cases e1:i=s
  ·rw [if_pos e1,if_pos e1];exact⟨by omega,_,h2,CY⟩
  rw [if_neg e1,if_neg e1];rw [if_neg e1] at h4;exact⟨by omega,_,ht i h1 e1 h4,CY⟩
 have hc:∀ {k' o},look (gW l m c1 c2 n k D s' ls') k'=some o→k'<7∨(k'=7∧(s'≠s→s'<ls.length))∨∃ i,i<ls.length∧i≠s'∧k'=i+1000:=by
  intro k' o hk;rcases w9 (aY hk) with hm|hm|⟨h7,hm⟩|⟨i,h1,h3,h4,hm⟩
  ·exact .inl (BA hρ (N:=2000) (by omega) _ hm).1
  ·injection hm with e1 e2;exact .inl (by omega)
  ·injection hm with e1 e2;refine .inr (.inl ⟨e1,fun e2=>Decidable.byContradiction fun hc=>h7 ?_⟩);rw [hat,if_neg e2];unfold bQ;rw [List.getD_eq_getElem?_getD,List.getElem?_eq_none (by omega)];rfl
  injection hm with e1 e2;exact .inr (.inr ⟨i,by omega,h3,e1⟩)
 intro k1 k2 o1 o2 hk1 hk2 heq;rcases hc hk1 with a1|⟨a1,a2⟩|⟨i1,a1,a2,a3⟩ <;> rcases hc hk2 with b1|⟨b1,b2⟩|⟨i2,b1,b2,b3⟩
 ·rw [hρ _ a1,hρ _ b1] at heq;exact heq
 ·rw [hρ _ a1,b1,MG] at heq;split at heq <;> omega
 ·rw [hρ _ a1,b3,D2] at heq;split at heq <;> omega
 ·rw [hρ _ b1,a1,MG] at heq;split at heq <;> omega
 ·omega
 ·rw [a1,b3,MG,D2] at heq;split at heq <;> split at heq <;> omega
 ·rw [hρ _ b1,a3,D2] at heq;split at heq <;> omega
 ·rw [b1,a3,MG,D2] at heq;split at heq <;> split at heq <;> omega
 rw [a3,b3,D2,D2] at heq;split at heq <;> split at heq <;> omega
end
theorem QO {A B:List Dt}{i:Nat}(h:i<A.length):cA (A++B) i=cA A i:=by
 unfold cA;rw [List.getD_eq_getElem?_getD,List.getD_eq_getElem?_getD,List.getElem?_append_left h]
theorem SK {A B:List Dt}{i j:Nat}(h:i=A.length+j):cA (A++B) i=cA B j:=by
 unfold cA;rw [List.getD_eq_getElem?_getD,List.getD_eq_getElem?_getD,List.getElem?_append_right (by omega),show i - A.length=j by omega]
theorem GI (l:List Pt)(m:List Ed):∀ {N i:Nat},i<N→cA (aQ l m N) (2*i)=dA l m i∧cA (aQ l m N) (2*i+1)=dB l m i
 |0,i,h=>by omega
 |N+1,i,h=>by
  have hl:=a9 l m N;unfold aQ;by_cases e:i=N
  ·subst e;rw [SK (j:=0) (by omega),SK (j:=1) (by omega)];exact⟨rfl,rfl⟩
  rw [QO (by omega),QO (by omega)];exact GI l m (by omega)
theorem kR {l:List Pt}{m:List Ed}{N i:Nat}(h:i<2*N):(i % 2=0∧cA (aQ l m N) i=dA l m (i / 2))∨(i % 2=1∧cA (aQ l m N) i=dB l m (i / 2)):=by
 have:=GI l m (N:=N) (i:=i / 2) (by omega);by_cases e:i % 2=0
 ·left;rw [show 2*(i / 2)=i by omega] at this;exact⟨e,this.1⟩
 right;rw [show 2*(i / 2)+1=i by omega] at this;exact⟨by omega,this.2⟩
theorem fC {l:List Pt}{m:List Ed}(hM:kS l m=true){i:Nat}(h:i<2*m.length):0≤(cA (aQ l m m.length) i).fr∧(cA (aQ l m m.length) i).fr<l.length∧0≤(cA (aQ l m m.length) i).tt∧(cA (aQ l m m.length) i).tt<l.length∧(cA (aQ l m m.length) i).no=i:=by
 have he:=pL hM (i:=i / 2) (by omega);rcases kR (l:=l) (m:=m) h with ⟨e,h1⟩|⟨e,h1⟩
 ·rw [h1];simp only [dA];omega
 rw [h1];simp only [dB];omega
theorem aEz {l:List Pt}{m:List Ed}{n:Int}(hok:cQ l m n=true)(hM:kS l m=true):aFr (aQ l m m.length)=true:=by
 refine List.all_eq_true.2 fun d hd=>?_;obtain⟨i,hi,rfl⟩:=List.getElem_of_mem hd;rw [← qR hi];rw [a9] at hi;have he:=pL hM (i:=i / 2) (by omega);have pa:=mD hok (i:=(bO m (i / 2)).a.toNat) (by omega);have pb:=mD hok (i:=(bO m (i / 2)).b.toNat) (by omega);rcases kR (l:=l) (m:=m) hi with ⟨e,h1⟩|⟨e,h1⟩
 ·rw [h1];unfold wide;simp only [Bool.and_eq_true,decide_eq_true_eq];simp only [eU,dA,eF];omega
 rw [h1];unfold wide;simp only [Bool.and_eq_true,decide_eq_true_eq];simp only [eU,dB,eF];omega
def rZ (nP:Nat)(D:List Dt):Nat→List (List Int)
 |0=>List.replicate nP []
 |j+1=>(rZ nP D j).set (cA D j).fr.toNat (bQ (rZ nP D j) (cA D j).fr.toNat++[(cA D j).no])
theorem o9 (nP:Nat)(D:List Dt):∀ j,(rZ nP D j).length=nP
 |0=>List.length_replicate
 |j+1=>by unfold rZ;rw [List.length_set];exact o9 nP D j
theorem FE (nP:Nat)(D:List Dt):∀ (j s:Nat),(∀ i,i<j→(cA D i).fr.toNat<nP)→(bQ (rZ nP D j) s).length≤j
 |0,s,_=>by
  show (bQ (List.replicate nP []) s).length≤0;unfold bQ;rw [List.getD_eq_getElem?_getD,List.getElem?_replicate];split <;> exact Nat.le_refl _
 |j+1,s,h=>by
  unfold rZ;rw [xK _ (by rw [o9];exact h j (Nat.lt_succ_self j))];split
  ·rename_i e;have:=FE nP D j (cA D j).fr.toNat fun i hi=>h i (by omega);rw [List.length_append,List.length_singleton];omega
  have:=FE nP D j s fun i hi=>h i (by omega);omega
theorem bm1 {k:Nat}{X Y:Prop}(h:Y):(match (generalizing:=false) Nat.ble (k+1) k with|true=>X|false=>Y):=by
 cases hb:Nat.ble (k+1) k with
 |false=>exact h
 |true=>have:=Nat.le_of_ble_eq_true hb;omega
def sD (nP:Nat)(D:List Dt)(i:Nat):Nat:=if i<D.length then (cA D i).fr.toNat else nP
theorem FM {n i:Nat}:bQ (List.replicate n []) i=[]:=by
 unfold bQ;rw [List.getD_eq_getElem?_getD,List.getElem?_replicate];split <;> rfl
theorem aLV {n s:Nat}:tC s (List.replicate n [])=List.replicate n aR:=by
 apply List.ext_getElem?;intro i;by_cases hi:i<n
 ·rw [D9 (by rw [List.length_replicate];exact hi),List.getElem?_replicate,if_pos hi,FM];rfl
 rw [List.getElem?_eq_none (by rw [mJ,List.length_replicate];omega),List.getElem?_eq_none (by rw [List.length_replicate];omega)]
theorem Z4 (v:Value):∀ n,rep n [v]=List.replicate n v
 |0=>rfl
 |n+1=>by rw [List.replicate_succ,← Z4 v n];rfl
theorem aHS {l:List Pt}{m:List Ed}{c1 c2:Nat}{n:Int}{k:Nat}{D:List Dt}{s:Nat}:gW l m c1 c2 n k D s (List.replicate l.length [])=BR l m c1 c2 n k D:=by
 unfold gW BR;rw [aLV,FM,aE6 (fun i _=>by rw [FM];rfl),Z4];rfl
def VW (D:List Dt)(s j:Nat):List Int:=((List.range j).filter fun i=>decide ((cA D i).fr.toNat=s)).map fun (i:Nat)=>(i:Int)
theorem FL {nP:Nat}{D:List Dt}:∀ (j:Nat),(∀ i,i<j→(cA D i).fr.toNat<nP∧(cA D i).no=i)→∀ s,bQ (rZ nP D j) s=VW D s j
 |0,_,s=>FM
 |j+1,h,s=>by
  have ih:=FL j fun i hi=>h i (by omega);have hj:=h j (Nat.lt_succ_self j);unfold rZ;rw [xK _ (by rw [o9];exact hj.1),ih,ih];unfold VW;rw [List.range_succ,List.filter_append,List.map_append];by_cases e:s=(cA D j).fr.toNat
  ·rw [if_pos e,e,hj.2];congr 1;rw [List.filter_cons_of_pos (by simp)];rfl
  rw [if_neg e,List.filter_cons_of_neg (by simpa using fun h=>e h.symm)];simp
theorem OJ {D:List Dt}{s j:Nat}{x:Int}(h:x∈VW D s j):∃ i,i<j∧x=i∧(cA D i).fr.toNat=s:=by
 unfold VW at h;obtain⟨i,hi,rfl⟩:=List.mem_map.1 h;obtain⟨h1,h2⟩:=List.mem_filter.1 hi;exact⟨i,List.mem_range.1 h1,rfl,by simpa using h2⟩
theorem V9 {D:List Dt}{s j i:Nat}(h:i<j)(hs:(cA D i).fr.toNat=s):(i:Int)∈VW D s j :=
 List.mem_map.2 ⟨i,List.mem_filter.2 ⟨List.mem_range.2 h,by simpa using hs⟩,rfl⟩
theorem A4 (k:List Bool)(x:Nat)(i:Nat)(h:cV (k.set x true) i=true):i=x∨cV k i=true:=by
 unfold cV at h ⊢;rw [List.getD_eq_getElem?_getD,List.getElem?_set] at h;by_cases e:x=i
 ·exact .inl e.symm
 rw [if_neg e,← List.getD_eq_getElem?_getD] at h;exact .inr h
theorem MK (m:List Ed)(s:List Bool):∀ (i p:Nat),cV (oG m s i) p=true→cV s p=true∨∃ e,e<i∧(p=(bO m e).a.toNat∨p=(bO m e).b.toNat)
 |0,p,h=>.inl h
 |i+1,p,h=>by
  unfold oG at h;rcases A4 _ _ _ h with e|h
  ·exact .inr ⟨i,Nat.lt_succ_self i,.inr e⟩
  ·rcases A4 _ _ _ h with e|h
   ·exact .inr ⟨i,Nat.lt_succ_self i,.inl e⟩
   ·rcases MK m s i p h with h|⟨e,h1,h2⟩
    ·exact .inl h
    exact .inr ⟨e,by omega,h2⟩
theorem ZP {l:List Pt}{m:List Ed}{n:Int}(hok:cQ l m n=true){s:Nat}(hs:s<l.length):(VW (aQ l m m.length) s (2*m.length)).length≠0:=by
 simp only [cQ,Bool.and_eq_true] at hok;have h1:=List.all_eq_true.1 hok.2.2.2;have h2:cV (oG m (List.replicate l.length false) m.length) s=true:=by
  rw [qZ (by rw [BZ,List.length_replicate];exact hs)];exact h1 _ (List.getElem_mem _)
 rcases MK m _ m.length s h2 with h|⟨e,h3,h4⟩
 ·unfold cV at h;rw [List.getD_eq_getElem?_getD,List.getElem?_replicate] at h;split at h <;> cases h
 have hd:=GI l m h3;rcases h4 with h4|h4
 ·have:=V9 (D:=aQ l m m.length) (s:=s) (j:=2*m.length) (i:=2*e) (by omega) (by rw [hd.1,h4];rfl);intro h0;rw [List.eq_nil_of_length_eq_zero h0] at this;cases this
 have:=V9 (D:=aQ l m m.length) (s:=s) (j:=2*m.length) (i:=2*e+1) (by omega) (by rw [hd.2,h4];rfl);intro h0;rw [List.eq_nil_of_length_eq_zero h0] at this;cases this
theorem I5 (m:Nat):∀ (k:Nat) (L:List Int) (i j:Nat),(j9 m k L i j).length=L.length
 |0,L,i,j=>rfl
 |k+1,L,i,j=>by
  unfold j9;split
  ·exact jM _ _ _ _
  split
  ·rw [I5 m k,jM]
  rw [I5 m k,jM]
theorem ZK (L:List Int)(a:Nat):∀ t,(swU L a t).length=L.length
 |0=>rfl
 |t+1=>by unfold swU;rw [jP];exact ZK L a t
theorem YR (L:List Int)(a:Nat):∀ t,(swD L a t).length=L.length
 |0=>rfl
 |t+1=>by unfold swD;rw [jP];exact YR L a t
theorem sY {c:Prop}[Decidable c]{a b:List Int}{n:Nat}(ha:a.length=n)(hb:b.length=n):(if c then a else b).length=n:=by
 split
 ·exact ha
 exact hb
theorem AG (D:CW):∀ (k:Nat) (L:List Int) (a m b:Nat),(fJ D k L a m b).length=L.length
 |0,L,_,_,_=>rfl
 |k+1,L,a,m,b=>by
  unfold fJ;refine sY (ZK _ _ _) (sY (YR _ _ _) ?_);simp only;have h1:(if stM D L a m b<m∧m<(a+b) / 2+m - stM D L a m b then j9 m (m - stM D L a m b+((a+b) / 2+m - stM D L a m b - m)) L (m - stM D L a m b) ((a+b) / 2+m - stM D L a m b - m) else L).length=L.length:=sY (I5 _ _ _ _ _) rfl;have h2:(if a<stM D L a m b∧stM D L a m b<(a+b) / 2 then fJ D k (if stM D L a m b<m∧m<(a+b) / 2+m - stM D L a m b then j9 m (m - stM D L a m b+((a+b) / 2+m - stM D L a m b - m)) L (m - stM D L a m b) ((a+b) / 2+m - stM D L a m b - m) else L) a (stM D L a m b) ((a+b) / 2) else (if stM D L a m b<m∧m<(a+b) / 2+m - stM D L a m b then j9 m (m - stM D L a m b+((a+b) / 2+m - stM D L a m b - m)) L (m - stM D L a m b) ((a+b) / 2+m - stM D L a m b - m) else L)).length=L.length:=sY ((AG D k _ _ _ _).trans h1) h1;exact sY ((AG D k _ _ _ _).trans h2) h2
theorem TC (D:CW)(n:Nat):∀ (k:Nat) (L:List Int) (a:Nat),(qK D n k L a).1.length=L.length
 |0,L,a=>rfl
 |k+1,L,a=>by
  unfold qK;split
  ·rw [TC D n k,u7]
  rfl
theorem RD (D:CW)(f n bs:Nat):∀ (k:Nat) (L:List Int) (a:Nat),(uF D f n bs k L a).1.length=L.length
 |0,L,a=>rfl
 |k+1,L,a=>by
  unfold uF;split
  ·rw [RD D f n bs k,AG]
  rfl
theorem aCH (D:CW)(f n bs:Nat)(r:List Int × Nat):(yL D f n bs r).length=r.1.length:=by
 unfold yL;exact sY (AG _ _ _ _ _ _) rfl
theorem RF (D:CW)(f n:Nat):∀ (k:Nat) (L:List Int) (bs:Nat),(JA D f n k L bs).length=L.length
 |0,L,bs=>rfl
 |k+1,L,bs=>by
  unfold JA;refine sY ?_ rfl;rw [RF D f n k,aCH,RD]
theorem rO (D:CW)(f:Nat)(L:List Int):(pP D f L).length=L.length:=by
 unfold pP;rw [RF,u7,TC]
def srN (D:List Dt)(ls:List (List Int)):Nat→List (List Int)
 |0=>ls
 |i+1=>(srN D ls i).set i (pP D 1000 (bQ ls i))
theorem tG (D:List Dt)(ls:List (List Int)):∀ i,(srN D ls i).length=ls.length
 |0=>rfl
 |i+1=>by unfold srN;rw [List.length_set];exact tG D ls i
theorem T0 (D:List Dt)(ls:List (List Int)):∀ {i:Nat},i≤ls.length→∀ s,bQ (srN D ls i) s=if s<i then pP D 1000 (bQ ls s) else bQ ls s
 |0,h,s=>by rw [if_neg (by omega)];rfl
 |i+1,h,s=>by
  have ih:=T0 D ls (i:=i) (by omega) s;unfold srN;rw [xK _ (by rw [tG];omega),ih];by_cases e:s=i
  ·rw [if_pos e,if_pos (by omega),e]
  rw [if_neg e];by_cases e2:s<i
  ·rw [if_pos e2,if_pos (by omega)]
  rw [if_neg e2,if_neg (by omega)]
theorem aCe {s:Nat}{ls ls':List (List Int)}(hl:ls'.length=ls.length)(h:∀ i,i<ls.length→(bQ ls' i).length=(bQ ls i).length):tC s ls'=tC s ls:=by
 unfold tC;rw [hl];refine List.map_congr_left fun i hi=>?_;unfold tV;rw [h i (List.mem_range.1 hi)]
theorem QX {l:List Pt}{m:List Ed}{c1 c2:Nat}{n:Int}{k:Nat}{D:List Dt}{s:Nat}{ls:List (List Int)}{e0 e:List (Nat × Value)}{h:Heap}{nx:Nat}{I:KS}(hn:ls.length≤1000)(hs:ls.length≤s)(hI:I e0 (gW l m c1 c2 n k D s ls) 2000)
  (he:∀ p∈e0,look e p.1=some (iM id p.2)∧zR 2000 p.2) (hb:∀ p∈tU l m c1 c2 n k D,look h p.1=some p.2) (h5:look h 5=some (.cells true false 1 (tC s ls)))
  (ht:∀ i,i<ls.length→(bQ ls i).length≠0→look h (i+1000)=some (ob (bQ ls i))):sT 2 I e h nx:=by
 refine⟨e0,gW l m c1 c2 n k D s ls,2000,id,hI,fun t v hv=>he _ (aY hv),fun k' o hk=>?_,fun k' k'' _ _ _ _ h=>h,fun _ _=>rfl,by omega⟩;rcases w9 (aY hk) with hm|hm|⟨h7,hm⟩|⟨i,h1,h3,h4,hm⟩
 ·obtain⟨a1,_,a2⟩:=BA (ρ:=id) (fun _ _=>rfl) (N:=2000) (by omega) _ hm;simp only at a1 a2;exact⟨by omega,o,hb _ hm,a2⟩
 ·injection hm with e1 e2;subst e1 e2;refine⟨by omega,.cells true false 1 (tC s ls),h5,rfl,rfl,rfl,G0 (mJ _ _) fun i hi=>D9 hi,L6 (by omega) (by omega)⟩
 ·exfalso;refine h7 ?_;unfold bQ;rw [List.getD_eq_getElem?_getD,List.getElem?_eq_none hs];rfl
 injection hm with e1 e2;subst e1 e2;exact⟨by omega,_,ht i h1 h4,CY⟩
def aAB (l:List Pt)(m:List Ed)(c1 c2:Nat)(n:Int)(k:Nat)(D:List Dt)(ls:List (List Int)):Heap :=
 (4,.cells true false 1 (rJ l.length m.length c1 c2 n (.slice (some ⟨6,0,none⟩) k k) (.slice (some ⟨5,0,none⟩) l.length l.length) aR))::(6,.cells true false 5 (flat tW.fl D))::(5,.cells true false 1 (tC ls.length ls)) ::
 (0,.cells false true bC.sz (flat bC.fl l))::(1,.cells false true bL.sz (flat bL.fl m))::tH ls.length ls ls.length
theorem aDp {l:List Pt}{m:List Ed}{c1 c2:Nat}{n:Int}{k:Nat}{D:List Dt}{s:Nat}{ls:List (List Int)}{h:Heap}{nx:Nat}(hn:ls.length≤1000)(hs:ls.length=s)(hh:h=gW l m c1 c2 n k D s ls):PE (.pointer (some ⟨4,0,none⟩)) (aAB l m c1 c2 n k D ls) 2000 (.pointer (some ⟨4,0,none⟩)) h nx:=by
 subst hs hh;have hsub:∀ p,p∈aAB l m c1 c2 n k D ls→p∈gW l m c1 c2 n k D ls.length ls:=by
  intro p hp;unfold aAB at hp;unfold gW;simp only [List.mem_cons,List.mem_append] at hp ⊢;rcases hp with hp|hp|hp|hp|hp|hp
  ·exact .inr (.inr (.inr (.inl hp)))
  ·exact .inl hp
  ·exact .inr (.inl hp)
  ·exact .inr (.inr (.inr (.inr (.inr (.inl hp)))))
  ·exact .inr (.inr (.inr (.inr (.inr (.inr (.inl hp))))))
  exact .inr (.inr (.inr (.inr (.inr (.inr (.inr (.inr hp)))))))
 have h5:look (gW l m c1 c2 n k D ls.length ls) 5=some (.cells true false 1 (tC ls.length ls)):=rfl;have hb:∀ p∈tU l m c1 c2 n k D,look (gW l m c1 c2 n k D ls.length ls) p.1=some p.2:=by
  unfold tU;exact List.forall_mem_cons.2 ⟨rfl,List.forall_mem_cons.2 ⟨rfl,List.forall_mem_cons.2 ⟨rfl,List.forall_mem_cons.2 ⟨rfl,List.forall_mem_cons.2 ⟨rfl,List.forall_mem_cons.2 ⟨rfl,fun _ h=>(by cases h)⟩⟩⟩⟩⟩⟩
 have h7:(bQ ls ls.length).length=0:=by
  unfold bQ;rw [List.getD_eq_getElem?_getD,List.getElem?_eq_none (Nat.le_refl _)];rfl
 refine⟨id,fun t v hv=>?_,fun k' o hk=>?_,fun k' k'' _ _ _ _ h=>h,fun _ _=>rfl,by omega⟩
 ·have hm:=aY hv;simp only [List.mem_cons,List.not_mem_nil,or_false] at hm;injection hm with e1 e2;subst e1 e2;exact⟨rfl,Nat.le_of_ble_eq_true rfl,rfl⟩
 ·rcases w9 (hsub _ (aY hk)) with hm|hm|⟨h8,hm⟩|⟨i,h1,h3,h4,hm⟩
  ·obtain⟨a1,_,a2⟩:=BA (ρ:=id) (fun _ _=>rfl) (N:=2000) (by omega) _ hm;simp only at a1 a2;exact⟨by omega,o,hb _ hm,a2⟩
  ·injection hm with e1 e2;subst e1 e2;refine⟨by omega,.cells true false 1 (tC ls.length ls),h5,rfl,rfl,rfl,G0 (mJ _ _) fun i hi=>D9 hi,L6 (by omega) (by omega)⟩
  ·exact absurd h7 h8
  injection hm with e1 e2;subst e1 e2;refine⟨by omega,_,?_,CY⟩;unfold gW
  repeat rw [bA (by omega)]
  rw [show op7 (bQ ls ls.length)=[] from if_pos h7];exact lM h3 h4 h1
theorem mR {ls:List (List Int)}{s:Nat}(h:ls.length≤s):op7 (bQ ls s)=[]:=by
 unfold bQ;rw [List.getD_eq_getElem?_getD,List.getElem?_eq_none h];rfl
def outs (l:List Pt)(m:List Ed):List (List Int):=srN (aQ l m m.length) (rZ l.length (aQ l m m.length) (2*m.length)) l.length
theorem fP (l:List Pt)(m:List Ed):(outs l m).length=l.length:=by unfold outs;rw [tG,o9]
theorem MX (s:Nat)(ls:List (List Int)):∀ n,WY (tH s ls n)
 |0=>fun j o hj=>by cases hj
 |n+1=>by
  unfold tH;split
  ·exact MX s ls n
  exact cJ (MX s ls n)
theorem aHL {n:Nat}{D:List Dt}{l:List Int}{c:Nat}(h1:l.length≤n)(h2:l.length≤1000000)(h3:inR D l=true)(h4:aFr D=true):G6 n D l [] c=some (true,pP D n l):=by
 have h3:sE (.dirs D) l=true:=h3;have h4:pO (.dirs D)=true:=h4;unfold G6;simp only [h1,h2,h3,h4,decide_true,Bool.and_self]
end Go.Aw
end
