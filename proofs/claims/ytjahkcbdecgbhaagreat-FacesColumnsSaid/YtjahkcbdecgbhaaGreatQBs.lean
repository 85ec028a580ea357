/-
  Parts of a proof. No condition.
-/
import Derived.Test.YtjahkcbdecgbhaaGreatQBr
set_option linter.unusedSimpArgs false
set_option linter.unusedVariables false
noncomputable section
namespace Go.Aw
set_option maxRecDepth 100000
set_option maxHeartbeats 2000000
theorem aE9 {b:Nat}{ρ:Nat→Nat}(hρ:∀ k,k<b→ρ k=k){v:Value}(hn:xD b v)(hi:gP id v=v):gP ρ v=v :=
 (A4 (ι:=j8 id) (ι':=j8 ρ) (n:=b) (fun k hk=>by show Loc.lay _ _ _=Loc.lay _ _ _;rw [hρ k hk];rfl) hn).trans hi
def edV (e:Ed):Value:=.agg #[iv e.a,iv e.b,iv e.l,iv e.r,iv e.n]
def bZ (P:Ed→Bool)(m:List Ed):Nat→List Int
 |0=>[]
 |i+1=>if P (cC m i)=true then bZ P m i++[(i:Int)] else bZ P m i
theorem zS {P:Ed→Bool}{m:List Ed}{i:Nat}(h:P (cC m i)=true):bZ P m (i+1)=bZ P m i++[(i:Int)]:=by
 show (if _ then _ else _)=_;rw [if_pos h]
theorem rZ {P:Ed→Bool}{m:List Ed}{i:Nat}(h:P (cC m i)=false):bZ P m (i+1)=bZ P m i:=by
 show (if _ then _ else _)=_;rw [if_neg (by rw [h];decide)]
theorem pR (P:Ed→Bool)(m:List Ed):∀ i,(bZ P m i).length≤i
 |0=>Nat.le_refl _
 |i+1=>by
  have:=pR P m i;unfold bZ;split
  ·rw [List.length_append,List.length_singleton];omega
  ·omega
theorem FK {a b:Nat}(h:a≤b){v:Value}(hv:xD a v):xD b v:=nM (ι:=j8 id) (ι':=j8 id) h (fun _ _=>rfl) hv
theorem aGp {L:List (Nat × Nat)}{b k:Nat}(hL:∀ p∈L,b≤p.1)(hk:k<b):rn L k=k:=by
 unfold rn;split
 ·rename_i q hq;have:=hL _ (a8 hq);simp only at this;omega
 ·rfl
def aKP (cl:List (Nat × XF))(m:List Ed)(H0:Heap)(g:Nat)(cap:List Value)(P:Ed→Bool):Prop:=∀ i,i<m.length→∀ (h':Heap) (nx':Nat) (K:KE),(∀ k o,look H0 k=some o→look h' k=some o)→K (.bool (P (cC m i))) h' nx'→CX (look cl) g (edV (cC m i)::cap) h' nx' K
def MB (R:Heap)(nP:Nat)(m:List Ed)(nD nL c1 c2:Nat)(n:Int)(fo:Option (Nat × Nat)):Heap:=(0,.cells false false 1 (IA 4 5 1 2 6 nP m.length nD nL c1 c2 n fo))::(5,.cells false true aU.sz (flat aU.fl m))::R
def vD (g:Nat)(cap:List Value):Value:=.func (.func g) #[] cap.toArray
structure S92 (cl:List (Nat × XF)) (args0:List Value) (h0:Heap) (R:Heap) (nP:Nat) (m:List Ed) (nD nL c1 c2:Nat) (n:Int) (fo:Option (Nat × Nat)) (g:Nat) (cap:List Value) (P:Ed→Bool):Prop where
 ea:args0=[.pointer (some ⟨0,0,none⟩),vD g cap]
 eh:h0=MB R nP m nD nL c1 c2 n fo
 sm:m.length≤1000
 hok:vB h0 2000
 nmF:xD 2000 (vD g cap)
 renF:gP id (vD g cap)=vD g cap
 cp:kU cap=true
 clo:aKP cl m h0 g cap P
def T92 (cl:List (Nat × XF))(args0:List Value)(h0:Heap)(n0:Nat)(out:List Int)(e:Option Int):Prop :=
 ∃ R nP m nD nL c1 c2 n fo g cap P,S92 cl args0 h0 R nP m nD nL c1 c2 n fo g cap P∧n0=2000∧out=bZ P m m.length∧e=none
def VG (F v:Value)(N c2:Nat)(j:Int):List (Nat × Value):=[(1,F),(5,v),(12,.slice (some ⟨5,0,none⟩) N c2),(13,iv N),(14,iv j)]
theorem w92 {cl:List (Nat × XF)}{args0:List Value}{h0:Heap}{n0:Nat}{out:List Int}{e:Option Int}(h:T92 cl args0 h0 n0 out e):body cl 92 args0 h0 n0 (Yields aO out e):=by
 obtain⟨R,nP,m,nD,nL,c1,c2,n,fo,g,cap,P,⟨rfl,rfl,sm,hok,nmF,renF,cp,clo⟩,rfl,rfl,rfl⟩:=h;have hN:∀ k,2000≤k→look (MB R nP m nD nL c1 c2 n fo) k=none:=fun k hk=>bW hok hk;have hrF:∀ L:List (Nat × Nat),(∀ p∈L,2000≤p.1)→gP (rn L) (vD g cap)=vD g cap:=fun L hL=>aE9 (b:=2000) (fun k hk=>aGp hL hk) nmF renF;(conv=>whnf)
 refine⟨fun q e h nx=>∃ (i:Nat) (j:Int),j=i∧i≤m.length∧q=m.length - i ∧
  ((bZ P m i=[]∧e=VG (vD g cap) (.slice none 0 0) m.length c2 j∧h=MB R nP m nD nL c1 c2 n fo∧nx=2000) ∨
   (0<(bZ P m i).length∧e=VG (vD g cap) (.slice (some ⟨2000,0,none⟩) (bZ P m i).length (bZ P m i).length) m.length c2 j∧h=[(2000,.cells true false 1 (flat aO.fl (bZ P m i)))]++MB R nP m nD nL c1 c2 n fo∧nx=2001)),⟨m.length,?_⟩,?_⟩
 ·refine c8 (P:=[]) (W:=MB R nP m nD nL c1 c2 n fo) (e0:=VG (vD g cap) (.slice none 0 0) m.length c2 0) (n0:=2000) [] ⟨0,0,rfl,Nat.zero_le _,rfl,.inl ⟨rfl,rfl,rfl,rfl⟩⟩ ?_ hok (fun _ _ h=>h) (fun _ h=>by cases h) (fun _ h=>by cases h) (fun _ h=>by cases h) (by omega);unfold VG;refine List.forall_mem_cons.2 ⟨⟨by rw [hrF _ (fun _ h=>by cases h)];rfl,nmF⟩,?_⟩;((repeat' refine iE rfl rfl ?_);exact iN)
 ·rintro q e h nx ⟨i,j,hj,hi,rfl,hx⟩;rcases hx with ⟨hnil,rfl,rfl,rfl⟩|⟨hpos,rfl,rfl,rfl⟩
  ·unfold VG MB;((conv=>whnf);refine bm (fun m1=>?_) (fun m1=>?_))
   ·have hil:i<m.length:=(by simp [aA,aC] at m1;omega);((conv=>whnf);refine bm (fun m2=>?_) (fun m2=>?_))
    ·(conv=>whnf);refine oA (EX m (i:=i) hil ?_) ?_
     ·show _+Int.toNat j*5=_;omega
     (conv=>whnf);rw [show kU cap.toArray.toList=true from cp];(conv=>whnf);refine clo i hil _ _ _ (fY (cJ (fun _ _ h=>h) (hN _ (by decide))) (hN _ (by decide))) ?_;((conv=>whnf);refine bm (fun p1=>?_) (fun p1=>?_))
     ·have p1:P (cC m i)=true:=p1;have hf:bZ P m (i+1)=[j]:=(by rw [zS p1,hnil,hj];rfl);((conv=>whnf);refine bm (fun m3=>?_) (fun m3=>?_))
      ·(conv=>whnf);refine⟨m.length - (i+1),by omega,?_⟩;refine c8 (P:=[(2000,.cells true false 1 (flat aO.fl [j]))]) (W:=MB R nP m nD nL c1 c2 n fo) (e0:=VG (vD g cap) (.slice (some ⟨2000,0,none⟩) 1 1) m.length c2 (j+1)) (n0:=2001) [(2000,2002)] ⟨i+1,j+1,by omega,by omega,rfl,.inr ⟨?_,?_,?_,rfl⟩⟩ ?_ hok ?_ ?_ ?_ ?_ (by omega)
       ·rw [hf];exact Nat.one_pos
       ·rw [hf];rfl
       ·rw [hf];rfl
       ·unfold VG;refine List.forall_mem_cons.2 ⟨⟨by rw [hrF _ (fun p h=>by rcases List.mem_cons.1 h with rfl|h;exact Nat.le_refl _;cases h)];rfl,FK (by omega) nmF⟩,?_⟩;((repeat' refine iE rfl rfl ?_);exact iN)
       ·repeat' first
         |exact fun _ _ h=>h
         |(refine cJ ?_ (hN _ (by decide)))
         |(refine fY ?_ (hN _ (by decide)))
       ·exact List.forall_mem_cons.2 ⟨⟨.inl ⟨Nat.le_of_ble_eq_true rfl,Nat.le_of_ble_eq_true rfl,Nat.le_of_ble_eq_true rfl⟩,_,rfl,aW (aF _ _) rfl⟩,fun _ h=>by cases h⟩
       ·show ∀ k∈[2000],∀ k'∈[2000],_;decide
       ·exact fun p h=>by rcases List.mem_cons.1 h with rfl|h;exact Nat.le_refl _;cases h
      ·exfalso;simp [aA,aC,aH] at m3;omega
     ·have p1:P (cC m i)=false:=p1;have hf:bZ P m (i+1)=[]:=(rZ p1).trans hnil;((conv=>whnf);refine bm (fun m3=>?_) (fun m3=>?_))
      ·(conv=>whnf);refine⟨m.length - (i+1),by omega,?_⟩;refine c8 (P:=[]) (W:=MB R nP m nD nL c1 c2 n fo) (e0:=VG (vD g cap) (.slice none 0 0) m.length c2 (j+1)) (n0:=2000) [] ⟨i+1,j+1,by omega,by omega,rfl,.inl ⟨hf,rfl,rfl,rfl⟩⟩ ?_ hok ?_ (fun _ h=>by cases h) (fun _ h=>by cases h) (fun _ h=>by cases h) (by omega)
       ·unfold VG;refine List.forall_mem_cons.2 ⟨⟨by rw [hrF _ (fun _ h=>by cases h)];rfl,nmF⟩,?_⟩;((repeat' refine iE rfl rfl ?_);exact iN)
       ·exact fY (cJ (fun _ _ h=>h) (hN _ (by decide))) (hN _ (by decide))
      ·exfalso;simp [aA,aC,aH] at m3;omega
    ·exfalso;simp [aA,aC] at m2;omega
   ·have hil:i=m.length:=(by simp [aA,aC] at m1;omega);(conv=>whnf);rw [hil] at hnil;rw [hnil];rfl
  ·unfold VG MB;have hlen:(flat aO.fl (bZ P m i)).length=(bZ P m i).length:=(by rw [bE];show _*1=_;omega);have hle:=pR P m i;((conv=>whnf);refine bm (fun m1=>?_) (fun m1=>?_))
   ·have hil:i<m.length:=(by simp [aA,aC] at m1;omega);((conv=>whnf);refine bm (fun m2=>?_) (fun m2=>?_))
    ·(conv=>whnf);refine oA (EX m (i:=i) hil ?_) ?_
     ·show _+Int.toNat j*5=_;omega
     (conv=>whnf);rw [show kU cap.toArray.toList=true from cp];(conv=>whnf);refine clo i hil _ _ _ (fY (cJ (ext_cons (fun _ _ h=>h) (hN _ (by decide))) (hN _ (by decide))) (hN _ (by decide))) ?_;((conv=>whnf);refine bm (fun p1=>?_) (fun p1=>?_))
     ·have p1:P (cC m i)=true:=p1;have hf:bZ P m (i+1)=bZ P m i++[j]:=(by rw [zS p1,hj]);((conv=>whnf);refine bm (fun m4=>?_) (fun m4=>?_))
      ·exfalso;have:=Nat.le_of_ble_eq_true m4;omega
      ·((conv=>whnf);refine bm (fun m5=>?_) (fun m5=>?_))
       ·((conv=>whnf);refine bm (fun m3=>?_) (fun m3=>?_))
        ·(conv=>whnf);refine⟨m.length - (i+1),by omega,?_⟩;refine c8 (P:=[(2000,.cells true false 1 (flat aO.fl (bZ P m i++[j])))]) (W:=MB R nP m nD nL c1 c2 n fo) (e0:=VG (vD g cap) (.slice (some ⟨2000,0,none⟩) ((bZ P m i).length+1) ((bZ P m i).length+1)) m.length c2 (j+1)) (n0:=2001) [(2000,2003)] ⟨i+1,j+1,by omega,by omega,rfl,.inr ⟨?_,?_,?_,rfl⟩⟩ ?_ hok ?_ ?_ ?_ ?_ (by omega)
         ·rw [hf,List.length_append];exact Nat.succ_pos _
         ·rw [hf,List.length_append];rfl
         ·rw [hf];rfl
         ·unfold VG;refine List.forall_mem_cons.2 ⟨⟨by rw [hrF _ (fun p h=>by rcases List.mem_cons.1 h with rfl|h;exact Nat.le_refl _;cases h)];rfl,FK (by omega) nmF⟩,?_⟩;((repeat' refine iE rfl rfl ?_);exact iN)
         ·exact cJ (CY (cJ (fY (cJ (ext_cons (fun _ _ h=>h) (hN _ (by decide))) (hN _ (by decide))) (hN _ (by decide))) (hN _ (by decide))) (hN _ (by decide))) (hN _ (by decide))
         ·exact List.forall_mem_cons.2 ⟨⟨.inl ⟨Nat.le_of_ble_eq_true rfl,Nat.le_of_ble_eq_true rfl,Nat.le_of_ble_eq_true rfl⟩,_,rfl,aW (aF aO _) (c9 aO (bZ P m i) j rfl)⟩,fun _ h=>by cases h⟩
         ·show ∀ k∈[2000],∀ k'∈[2000],_;decide
         ·exact fun p h=>by rcases List.mem_cons.1 h with rfl|h;exact Nat.le_refl _;cases h
        ·exfalso;simp [aA,aC,aH] at m3;omega
       ·exact m7 (s:=1) (by omega) (by omega) m5
     ·have p1:P (cC m i)=false:=p1;have hf:bZ P m (i+1)=bZ P m i:=rZ p1;((conv=>whnf);refine bm (fun m3=>?_) (fun m3=>?_))
      ·(conv=>whnf);refine⟨m.length - (i+1),by omega,?_⟩;refine c8 (P:=[(2000,.cells true false 1 (flat aO.fl (bZ P m i)))]) (W:=MB R nP m nD nL c1 c2 n fo) (e0:=VG (vD g cap) (.slice (some ⟨2000,0,none⟩) (bZ P m i).length (bZ P m i).length) m.length c2 (j+1)) (n0:=2001) [] ⟨i+1,j+1,by omega,by omega,rfl,.inr ⟨?_,?_,?_,rfl⟩⟩ ?_ hok ?_ ?_ ?_ (fun _ h=>by cases h) (by omega)
       ·rw [hf];exact hpos
       ·rw [hf];rfl
       ·rw [hf];rfl
       ·unfold VG;refine List.forall_mem_cons.2 ⟨⟨by rw [hrF _ (fun _ h=>by cases h)];rfl,FK (by omega) nmF⟩,?_⟩;((repeat' refine iE rfl rfl ?_);exact iN)
       ·repeat' first
         |exact fun _ _ h=>h
         |(refine cJ ?_ (hN _ (by decide)))
         |(refine fY ?_ (hN _ (by decide)))
         |(refine ext_cons ?_ (hN _ (by decide)))
       ·exact List.forall_mem_cons.2 ⟨⟨.inl ⟨Nat.le_of_ble_eq_true rfl,Nat.le_of_ble_eq_true rfl,Nat.le_of_ble_eq_true rfl⟩,_,rfl,aN (aF _ _)⟩,fun _ h=>by cases h⟩
       ·show ∀ k∈[2000],∀ k'∈[2000],_;decide
      ·exfalso;simp [aA,aC,aH] at m3;omega
    ·exfalso;simp [aA,aC] at m2;omega
   ·have hil:i=m.length:=(by simp [aA,aC] at m1;omega);(conv=>whnf);rw [show bZ P m m.length=bZ P m i by rw [← hil]];have:=kY aO (l:=bZ P m i) (e:=none) (h:=[(2000,.cells true false 1 (flat aO.fl (bZ P m i)))]++MB R nP m nD nL c1 c2 n fo) (q:=2000) (nx:=2001) hpos rfl;exact this
def X92 (cl:List (Nat × XF)):Nat × XF:=(92,yOf aO (T92 cl))
theorem x92 {cl:List (Nat × XF)}(h:kM cl):cO Go.Proofs.Tryz.prog (X92 cl).1 (X92 cl).2:=Q6 aO (aL h) fun _ _ _ _ _=>w92
def bx1 (a:Int):aV:=.cells false true 1 [iv a]
abbrev pV (k:Nat):Value:=.pointer (some ⟨k,0,none⟩)
theorem aFS {R:Heap}{nP:Nat}{m:List Ed}{nD nL c1 c2:Nat}{n:Int}{fo:Option (Nat × Nat)}(h:vB R 2000):vB (MB R nP m nD nL c1 c2 n fo) 2000:=by
 refine bY (bY h (by decide) (aN (aF _ _))) (by decide) ?_;refine aBI ?_;exact List.forall_mem_cons.2 ⟨⟨rfl,mR rfl⟩,List.forall_mem_cons.2 ⟨⟨rfl,mR rfl⟩,List.forall_mem_cons.2 ⟨⟨rfl,mR rfl⟩,List.forall_mem_cons.2 ⟨⟨rfl,mR rfl⟩,List.forall_mem_cons.2 ⟨⟨rfl,mR rfl⟩,List.forall_mem_cons.2 ⟨⟨by cases fo <;> rfl,by cases fo <;> exact mR rfl⟩,fun _ h=>by cases h⟩⟩⟩⟩⟩⟩
theorem ZH {α:Type}{E:El α}{out:List α}{e:Option Int}{h:Heap}{nx:Nat}{K:KE}(hx:PB E out e h nx K):∃ v h' nx',K v h' nx'∧∀ K':KE,K' v h' nx'→PB E out e h nx K':=by
 cases out with
 |nil=>exact⟨_,_,_,hx,fun K' hk=>hk⟩
 |cons a t=>exact⟨_,_,_,hx,fun K' hk=>hk⟩
def cT (l:List Pt)(x:Int)(e:Ed):Bool:=decide ((dS l e.a).1≤x)&&decide (x<(dS l e.b).1)
def aC3:Nat × XF:=(159,fun args h nx K=>∃ e p q l m x,args=[edV e]++[.pointer (some ⟨p,0,none⟩),.pointer (some ⟨q,0,none⟩)]∧T0 h p q l m x∧(0≤e.a∧e.a<l.length∧0≤e.b∧e.b<l.length)∧K (.bool (cT l x e)) h nx)
theorem aJv:cO Go.Proofs.Tryz.prog aC3.1 aC3.2:=by
 refine (gC (S:=fun args0 h0 n0 v1 h1 j=>∃ e l m x c0 c1 F,(0≤e.a∧e.a<l.length∧0≤e.b∧e.b<l.length)∧args0=[edV e]++[.pointer (some ⟨0,0,none⟩),.pointer (some ⟨2,0,none⟩)]∧h0=aCR l m x c0 c1 F∧n0=5∧v1=.bool (cT l x e)∧h1=[]∧j=0) (aL (xl:=[]) .nil) ?_).mono ?_ ?_
 ·rintro args0 h0 n0 v1 h1 j ⟨e,l,m,x,c0,c1,F,he,rfl,rfl,rfl,rfl,rfl,rfl⟩;refine⟨rfl,fun u _ _=>u=.bool (cT l x e),?_,fun v h nx e=>by rw [e];exact kH rfl⟩;obtain⟨a,b,c,d,g⟩:=e;simp only at he;unfold edV;((conv=>whnf);refine bm (fun m1=>?_) (fun m1=>?_))
  ·(conv=>whnf);refine iB (aF6 l (i:=a.toNat) (by omega) ?_) ?_
   ·show _+Int.toNat a*2+0=_;omega
   ((conv=>whnf);refine bm (fun m2=>?_) (fun m2=>?_))
   ·((conv=>whnf);refine bm (fun m3=>?_) (fun m3=>?_))
    ·(conv=>whnf);refine iB (aF6 l (i:=b.toNat) (by omega) ?_) ?_
     ·show _+Int.toNat b*2+0=_;omega
     (conv=>whnf);have m2:(fT l a.toNat).1≤x:=(by simpa [aA,aC] using m2);show Value.bool (decide (x<(fT l b.toNat).1))=Value.bool (decide ((fT l a.toNat).1≤x)&&decide (x<(fT l b.toNat).1));rw [decide_eq_true m2,Bool.true_and]
    ·exfalso;simp [aA,aC] at m3;omega
   ·(conv=>whnf);have m2:¬ (fT l a.toNat).1≤x:=(by simpa [aA,aC] using m2);show Value.bool false=Value.bool (decide ((fT l a.toNat).1≤x)&&decide (x<(fT l b.toNat).1));rw [decide_eq_false m2,Bool.false_and]
  ·exfalso;simp [aA,aC] at m1;omega
 ·rintro args h nx K ⟨e,p,q,l,m,x,rfl,hd,he,hk⟩;obtain⟨c0,c1,F,i⟩:=aAo (nx:=nx) hd (r:=[edV e]) rfl;exact⟨_,_,5,_,[],0,⟨e,l,m,x,c0,c1,F,he,rfl,rfl,rfl,rfl,rfl,rfl⟩,i,hk⟩
 ·rintro args h nx K ⟨e,p,q,l,m,x,rfl,hd,he,hk⟩;exact⟨_,_,_,hk,fun K' hk'=>⟨e,p,q,l,m,x,rfl,hd,he,hk'⟩⟩
theorem aEu {P:Program}{f:Nat}{x y:XF}(hx:cO P f x)(hy:cO P f y):cO P f (fun args h nx K=>x args h nx K∨y args h nx K):=by
 refine⟨fun args h nx K hk=>?_,fun args h nx K hk=>?_⟩
 ·rcases hk with hk|hk
  ·exact hx.1 args h nx K hk
  ·exact hy.1 args h nx K hk
 ·rcases hk with hk|hk
  ·obtain⟨v,h',n',a,b⟩:=hx.2 args h nx K hk;exact⟨v,h',n',a,fun K' hk'=>.inl (b K' hk')⟩
  ·obtain⟨v,h',n',a,b⟩:=hy.2 args h nx K hk;exact⟨v,h',n',a,fun K' hk'=>.inr (b K' hk')⟩
def nlX (r:List Value):XF:=fun args h nx K=>∃ p q,args=.slice none 0 0::(r++[kA (.cols [] [] 0) (p,q)])∧K (.tuple #[]) h nx
theorem J4 {C:VC}{f:Nat}{r:List Value}(hr:eH r=true)(hC:bG Go.Proofs.Tryz.prog C)(hs:C f (.slice none 0 0::(r++[kA (.cols [] [] 0) (0,1)])) [] 2 (fun v h _=>v=.tuple #[])):cO Go.Proofs.Tryz.prog f (nlX r):=by
 refine (gC (S:=fun args0 h0 n0 v1 h1 j=>args0=.slice none 0 0::(r++[kA (.cols [] [] 0) (0,1)])∧h0=[]∧n0=2∧v1=.tuple #[]∧h1=[]∧j=0) hC ?_).mono ?_ ?_
 ·rintro args0 h0 n0 v1 h1 j ⟨rfl,rfl,rfl,rfl,rfl,rfl⟩;exact⟨rfl,_,hs,fun v h nx e=>by rw [e];exact kH rfl⟩
 ·rintro args h nx K ⟨p,q,rfl,hk⟩;refine⟨_,_,2,_,[],0,⟨rfl,rfl,rfl,rfl,rfl,rfl⟩,tK (fun k=>if k=0 then p else q) ?_ ?_ (fun k o hk=>bP hk),?_⟩
  ·rw [List.map_cons,List.map_append,show r.map (gP (fun k=>if k=0 then p else q))=r from by
    conv=>rhs;rw [← List.map_id r]
    exact List.map_congr_left fun v hv=>m0 (bU hr hv)]
   simp [kA,R0,gP,tr,dT,bT,lZ,dU,j8]
  ·intro v hv;rcases List.mem_cons.1 hv with rfl|hv
   ·exact dE rfl
   ·rcases List.mem_append.1 hv with hv|hv
    ·exact dE (bU hr hv)
    ·simp only [List.mem_cons,List.not_mem_nil,or_false] at hv;subst hv;exact mN rfl
  ·simp only [o5,sL,mU,lD,m0 (v:=.tuple #[]) rfl,Nat.add_zero];exact hk
 ·rintro args h nx K ⟨p,q,rfl,hk⟩;exact⟨_,_,_,hk,fun K' hk'=>⟨p,q,rfl,hk'⟩⟩
def aAk:Nat × XF:=(265,nlX [iv 0,iv 0])
theorem aIw:cO Go.Proofs.Tryz.prog aAk.1 aAk.2:=J4 rfl (lM (xl:=[]) .nil 3) (by
 repeat' (((conv=>whnf);refine bm (fun g=>?_) (fun g=>?_)))
 all_goals (conv=>whnf))
def aAI:Nat × XF:=(244,nlX [iv 0])
theorem aIF:cO Go.Proofs.Tryz.prog aAI.1 aAI.2:=J4 rfl (lM (xl:=[aAk]) (.cons aIw .nil) 3) (by
 repeat' (((conv=>whnf);refine bm (fun g=>?_) (fun g=>?_)))
 all_goals (conv=>whnf)
 all_goals exact⟨0,1,rfl,by
  repeat' (((conv=>whnf);refine bm (fun g=>?_) (fun g=>?_)))
  all_goals (conv=>whnf)⟩)
def aAt:Nat × XF:=(214,nlX [])
theorem aIe:cO Go.Proofs.Tryz.prog aAt.1 aAt.2:=J4 rfl (lM (xl:=[aAI]) (.cons aIF .nil) 3) (by
 (conv=>whnf);exact⟨0,1,rfl,by (conv=>whnf)⟩)
def aEA:Nat × XF:=(160,nlX [])
theorem aJi:cO Go.Proofs.Tryz.prog aEA.1 aEA.2:=J4 rfl (lM (xl:=[aAt]) (.cons aIe .nil) 3) (by
 (conv=>whnf);exact⟨0,1,rfl,by (conv=>whnf)⟩)
def SY:Nat × XF:=(160,fun args h nx K=>PQ (GP 1000) args h nx K∨nlX [] args h nx K)
theorem aJf:cO Go.Proofs.Tryz.prog SY.1 SY.2:=aEu (aAX 1000) aJi
def nR (l:List Pt)(m:List Ed)(x:Int):List Int:=oC (.cols l m x) 1000 (bZ (cT l x) m m.length)
theorem DH (P:Ed→Bool)(m:List Ed):∀ i,i≤m.length→∀ y∈bZ P m i,0≤y∧y<m.length
 |0,_,y,hy=>by cases hy
 |i+1,hi,y,hy=>by
  unfold bZ at hy;split at hy
  ·rcases List.mem_append.1 hy with h|h
   ·exact DH P m i (by omega) y h
   ·rw [List.mem_singleton.1 h];omega
  ·exact DH P m i (by omega) y hy
def H73 (l:List Pt)(m:List Ed)(nD nL c1 c2:Nat)(n:Int)(fo:Option (Nat × Nat)):Heap:=MB [(4,.cells false true aQ.sz (flat aQ.fl l))] l.length m nD nL c1 c2 n fo
def T73 (args0:List Value)(h0:Heap)(n0:Nat)(out:List Int)(e:Option Int):Prop :=
 ∃ l m x nD nL c1 c2 n fo,args0=[pV 0,iv x]∧h0=H73 l m nD nL c1 c2 n fo∧n0=2000∧out=nR l m x∧e=none∧kK l m=true∧l.all aZ=true∧okX x=true
def aEj:List (Nat × XF):=[aC3]
theorem aCg:kM aEj:=.cons aJv .nil
def aIh (k:Nat):Nat:=if k=7 then 2000 else if k=8 then 2001 else k
def R73 (l:List Pt)(x:Int):Heap:=[(7,.cells false false 1 [pV 0]),(8,bx1 x),(4,.cells false true aQ.sz (flat aQ.fl l))]
theorem aEf {l:List Pt}{x:Int}:vB (R73 l x) 2000:=bY (bY (bY (fun k o hk=>by cases hk) (by decide) (aN (aF _ _))) (by decide) (aN rfl)) (by decide) ⟨rfl,rfl,rfl,rfl,gR rfl⟩
attribute [local irreducible] yOf in
theorem w73 {args0:List Value}{h0:Heap}{n0:Nat}{out:List Int}{e:Option Int}(h:T73 args0 h0 n0 out e):body [X92 aEj,SY] 73 args0 h0 n0 (Yields aO out e):=by
 obtain⟨l,m,x,nD,nL,c1,c2,n,fo,rfl,rfl,rfl,rfl,rfl,hM,hR,hX⟩:=h;have hm:m.length≤1000:=(by simp only [kK,Bool.and_eq_true,decide_eq_true_eq] at hM;exact hM.1.2);have hfl:=pR (cT l x) m m.length;have hfi:=DH (cT l x) m m.length (Nat.le_refl _);unfold H73 MB;(conv=>whnf);refine K1 aO (T:=T92 aEj) (l:=bZ (cT l x) m m.length) (e:=none) (args0:=[pV 0,vD 159 [pV 7,pV 8]]) (h0:=MB (R73 l x) l.length m nD nL c1 c2 n fo) (n0:=2000) ⟨R73 l x,l.length,m,nD,nL,c1,c2,n,fo,159,[pV 7,pV 8],cT l x,⟨rfl,rfl,hm,aFS aEf,mN rfl,by simp [vD,gP,tr,dT,bT,lZ,dU,j8],rfl,?_⟩,rfl,rfl,rfl⟩ ?_ ?_
 ·intro i hi h' nx' K hs hk;have he:=nB hM hi;refine⟨cC m i,7,8,l,m,x,rfl,⟨0,4,5,_,_,_,_,_,_,_,_,_,_,_,_,_,_,_,_,_,_,_,_,_,_,_,hs 7 _ rfl,hs 0 _ rfl,⟨hs 4 _ rfl,List.take_length⟩,⟨hs 5 _ rfl,List.take_length⟩,hs 8 _ rfl⟩,he,hk⟩
 ·refine tK aIh ?_ ?_ fun k o hk=>?_
  ·simp [vD,gP,tr,dT,bT,lZ,dU,j8,aIh,pV]
  ·exact List.forall_mem_cons.2 ⟨mN rfl,List.forall_mem_cons.2 ⟨mN rfl,fun _ h=>by cases h⟩⟩
  ·unfold MB R73 at hk;rw [aD] at hk;split at hk
   ·rename_i hq;injection hk with hk;subst hk;rw [← beq_true hq]
    exact⟨by decide,false,1,_,rfl,by decide,(fun h=>by cases h),by cases fo <;> exact gR rfl,_,_,_,_,rfl,by cases fo <;> rfl⟩
   rw [aD] at hk;split at hk
   ·rename_i hq;injection hk with hk;subst hk;rw [← beq_true hq]
    exact⟨by decide,true,aU.sz,_,rfl,by decide,fun _=>aF aU m,fun v hv=>cG (a9 (aF aU m) hv),_,_,_,_,rfl,by rw [List.take_length];exact (bL (aF aU m)).symm⟩
   rw [aD] at hk;split at hk
   ·rename_i hq;injection hk with hk;subst hk;rw [← beq_true hq]
    exact⟨by decide,false,1,_,rfl,by decide,(fun h=>by cases h),gR rfl,_,_,_,_,rfl,rfl⟩
   rw [aD] at hk;split at hk
   ·rename_i hq;injection hk with hk;subst hk;rw [← beq_true hq]
    exact⟨by decide,true,1,_,rfl,by decide,(fun _=>rfl),gR rfl,_,_,_,_,rfl,rfl⟩
   rw [aD] at hk;split at hk
   ·rename_i hq;injection hk with hk;subst hk;rw [← beq_true hq]
    exact⟨by decide,true,aQ.sz,_,rfl,by decide,fun _=>aF aQ l,fun v hv=>cG (a9 (aF aQ l) hv),_,_,_,_,rfl,by rw [List.take_length];exact (bL (aF aQ l)).symm⟩
   ·exact bP hk
 ·have hc:nR l m x=oC (.cols l m x) 1000 (bZ (cT l x) m m.length):=rfl;generalize bZ (cT l x) m m.length=O at *;cases O with
  |nil =>
   have hn:nR l m x=[]:=List.eq_nil_of_length_eq_zero (by rw [hc,qC];rfl);rw [hn];(conv=>whnf);refine .inr ⟨2000,2001,rfl,?_⟩;(conv=>whnf)
  |cons a t =>
   (conv=>whnf);refine .inl ⟨2002,_,[],(2000,2001),a::t,.cols l m x,rfl,rfl,?_,?_,?_⟩
   ·exact aCL rfl
   ·exact⟨0,4,5,_,_,_,_,_,_,_,_,_,_,_,_,_,_,_,_,_,_,_,_,_,_,_,rfl,rfl,⟨rfl,List.take_length⟩,⟨rfl,List.take_length⟩,rfl⟩
   ·have h1:(a::t).length≤1000:=(by omega);have h3:fR (.cols l m x) (a::t)=true:=List.all_eq_true.2 fun y hy=>by
     have:=hfi y hy;show (decide (0≤y)&&decide (y<(m.length:Int)))=true;rw [decide_eq_true this.1,decide_eq_true this.2];rfl
    have h4:fH (.cols l m x)=true:=by
     show (kK l m&&l.all aZ&&okX x)=true;rw [hM,hR,hX];rfl
    refine aJ (show (decide ((a::t).length≤1000)&&decide ((a::t).length≤1000000)&&fR (.cols l m x) (a::t)&&fH (.cols l m x))=true by rw [h3,h4,decide_eq_true h1,decide_eq_true (show (a::t).length≤1000000 by omega)];rfl) ?_;have hl:(oC (.cols l m x) 1000 (a::t)).length=(a::t).length:=qC _ _ _;rw [hc];generalize oC (.cols l m x) 1000 (a::t)=S at *;have hS:0<S.length:=(by rw [hl];exact Nat.succ_pos _);rw [← hl];(conv=>whnf);exact kY aO (l:=S) (e:=none) (q:=2002) (nx:=2003) hS rfl
theorem SO {l:List Pt}{m:List Ed}{n:Int}(hok:cX l m n=true):l.all aZ=true:=List.all_eq_true.2 fun p hp=>by
 obtain⟨i,hi,rfl⟩:=List.getElem_of_mem hp;have:=oT hok hi;have e:fT l i=l[i]:=by
  unfold fT;rw [List.getD_eq_getElem?_getD,List.getElem?_eq_getElem hi];rfl
 rw [e] at this;simp only [aZ,Bool.and_eq_true,decide_eq_true_eq];omega
theorem aJ8 {h:Heap}{p:Nat}{l:List Pt}{m:List Ed}{n:Int}(hw:WA h p l m n)(x:Int){nx:Nat}:∃ nD nL c1 c2 fo,In [pV 0,iv x] (H73 l m nD nL c1 c2 n fo) 2000 [pV p,iv x] h nx:=by
 obtain⟨ok,sm,k0,k1,kd,kt,kf,nm,c1,c2,w,⟨w1,g1,s1,x1,a1,b1⟩,_⟩:=hw;obtain⟨wr,g,sz,hst⟩:=w.st;obtain⟨w2,g2,s2,x2,a2,b2⟩:=w.pt;refine⟨(bC l m m.length).length,(outs l m).length,c1,c2,some ((bC l m m.length).length,(bC l m m.length).length),tK (rhW p k0 k1 kd kt kf 0 nm 0) rfl ?_ fun k o hk=>?_⟩
 ·exact List.forall_mem_cons.2 ⟨mN rfl,List.forall_mem_cons.2 ⟨mN rfl,fun _ h=>by cases h⟩⟩
 ·unfold H73 MB at hk;rw [aD] at hk;split at hk
  ·rename_i hq;injection hk with hk;subst hk;rw [← beq_true hq]
   exact⟨by decide,false,1,_,rfl,by decide,(fun h=>by cases h),gR rfl,wr,g,sz,_,hst,rfl⟩
  rw [aD] at hk;split at hk
  ·rename_i hq;injection hk with hk;subst hk;rw [← beq_true hq]
   exact⟨by decide,true,aU.sz,_,rfl,by decide,fun _=>aF aU m,fun v hv=>cG (a9 (aF aU m) hv),w1,g1,s1,x1,a1,by rw [b1];exact (bL (aF aU m)).symm⟩
  rw [aD] at hk;split at hk
  ·rename_i hq;injection hk with hk;subst hk;rw [← beq_true hq]
   exact⟨by decide,true,aQ.sz,_,rfl,by decide,fun _=>aF aQ l,fun v hv=>cG (a9 (aF aQ l) hv),w2,g2,s2,x2,a2,by rw [b2];exact (bL (aF aQ l)).symm⟩
  ·exact bP hk
def aCD:Nat × XF:=(73,fun args h nx K=>∃ p l m n x,args=[pV p,iv x]∧WA h p l m n∧(0≤x∧x<10000)∧PB aO (nR l m x) none h nx K)
theorem aM0:cO Go.Proofs.Tryz.prog aCD.1 aCD.2:=by
 have h0:cO Go.Proofs.Tryz.prog 73 (yOf aO T73):=Q6 aO (aL (xl:=[X92 aEj,SY]) (.cons (x92 aCg) (.cons aJf .nil))) fun _ _ _ _ _=>w73;refine h0.mono ?_ ?_
 ·rintro args h nx K ⟨p,l,m,n,x,rfl,hw,hx,hk⟩;obtain⟨nD,nL,c1,c2,fo,hin⟩:=aJ8 (nx:=nx) hw x;have hok:=kR hw.ok;refine K1 aO ⟨l,m,x,nD,nL,c1,c2,n,fo,rfl,rfl,rfl,rfl,rfl,(jF hok).1,SO hok,?_⟩ hin hk;unfold okX;rw [decide_eq_true hx.1,decide_eq_true (show x≤10000 by omega)];rfl
 ·rintro args h nx K ⟨p,l,m,n,x,rfl,hw,hx,hk⟩;obtain⟨v,h',nx',h1,h2⟩:=ZH hk;exact⟨v,h',nx',h1,fun K' hk'=>⟨p,l,m,n,x,rfl,hw,hx,h2 K' hk'⟩⟩
theorem VP {l:List Pt}{m:List Ed}{x:Int}:(nR l m x).length≤m.length:=by
 unfold nR;rw [qC];exact pR _ _ _
def G0 (m:List Ed)(S:List Int):Nat→List Int
 |0=>[0]
 |k+1=>G0 m S k++[(cC m (aM S k).toNat).l]
theorem KX (m:List Ed)(S:List Int):∀ k,(G0 m S k).length=k+1
 |0=>rfl
 |k+1=>by unfold G0;rw [List.length_append,KX m S k];rfl
def MC (x:Int):Bool:=decide (0≤x)&&decide (x<10000)
def SE (l:List Pt)(m:List Ed)(x:Int):List Int:=G0 m (nR l m x) (nR l m x).length
def aKy (a:A81):Prop:=eK a.l a.m a.n=true∧(a.l.length≤1000∧a.m.length≤1000)∧MC a.f=a.b
def v72 (a:A81):Value:=match a.b with|true=>.tuple #[.slice (some ⟨2009,0,none⟩) (SE a.l a.m a.f).length (SE a.l a.m a.f).length,iv 0]|false=>.tuple #[aP,iv 1]
def h72 (a:A81):Heap:=match a.b with|true=>(2009,.cells true false 1 (flat aO.fl (SE a.l a.m a.f)))::H5 a.l a.m a.n a.c1 a.c2 [iv a.f]|false=>H5 a.l a.m a.n a.c1 a.c2 [iv a.f]
def n72 (a:A81):Nat:=match a.b with|true=>2010|false=>2009
def aJ9:XF:=dX aKy (fun a=>[pV 12,pV 3,pV 2]) (fun a=>H5 a.l a.m a.n a.c1 a.c2 [iv a.f]) (fun _=>2009) v72 h72 n72
def e72 (v:Value)(k N:Nat)(j:Int):List (Nat × Value):=[(2,pV 2),(6,.slice (some ⟨2009,0,none⟩) k k),(18,v),(19,iv N),(20,iv j)]
theorem V7 {α:Type}(E:El α){l:List α}{e:Option Int}{h:Heap}{nx:Nat}{K:KE}(hl:0<l.length)(hk:K (jN e (.slice (some ⟨nx,0,none⟩) l.length l.length)) (bO h nx (.cells true false E.sz (flat E.fl l))) (nx+1)):PB E l e h nx K:=by
 cases l with
 |nil=>cases hl
 |cons a r=>exact hk
theorem aEE {W:Heap}{P:Heap}(N:Nat)(L:List Int){nx:Nat}(hN:L.length=N)(hK:vB W 2009)(hP:∀ k o,look ((2009,.cells true false 1 (flat aO.fl L))::W) k=some o→look (P++W) k=some o:=by exact fun _ _ h=>h) :
  ∃ ρ,oM 2009 ρ [(0,.tuple #[.slice (some ⟨2009,0,none⟩) N N,iv 0])] ((2009,.cells true false 1 (flat aO.fl L))::W) 2010 [(0,.tuple #[.slice (some ⟨2009,0,none⟩) N N,iv 0])] (P++W) nx:=by
 refine GL (v:=.tuple #[.slice (some ⟨2009,0,none⟩) N N,iv 0]) (by simp [gP,tr,dT,bT,dU,j8];rfl) ?_ hP ?_ (Nat.le_of_ble_eq_true rfl)
 ·intro x hx;simp only [List.mem_cons,List.not_mem_nil,or_false] at hx;rcases hx with rfl|rfl
  ·exact⟨Nat.le_of_ble_eq_true rfl,fun h=>by cases h⟩
  ·exact gG (cG rfl)
 ·exact bY (xP hK (by omega)) (by omega) (aN (aF _ _))
theorem w72 (l:List Pt)(m:List Ed)(n:Int)(c1 c2:Nat)(x:Int)(b:Bool)(ho:eK l m n=true)(hlm:l.length≤1000∧m.length≤1000)(hb:MC x=b)(hin:∀ y∈nR l m x,0≤y∧y<m.length) :
  body [aCD] 72 [pV 12,pV 3,pV 2] (H5 l m n c1 c2 [iv x]) 2009 (fun v h nx=>∃ ρ,oM 2009 ρ [(0,v72 ⟨l,m,n,c1,c2,x,b⟩)] (h72 ⟨l,m,n,c1,c2,x,b⟩) (n72 ⟨l,m,n,c1,c2,x,b⟩) [(0,v)] h nx):=by
 have hW:=aJa (c1:=c1) (c2:=c2) (cs:=[iv x]) ho hlm;have hK:=aG7 (l:=l) (m:=m) (n:=n) (c1:=c1) (c2:=c2) (cs:=[iv x]) hlm.1 rfl;have hN:∀ k,2009≤k→look (H5 l m n c1 c2 [iv x]) k=none:=fun k hk=>aIU hlm.1 hk;((conv=>whnf);refine bm (fun g1=>?_) (fun g1=>?_))
 ·have g1:0≤x:=(by simpa [aA,aC] using g1);((conv=>whnf);refine bm (fun g2=>?_) (fun g2=>?_))
  ·have g2:10000≤x:=(by simpa [aA,aC] using g2);have hb0:MC x=false:=(by unfold MC;rw [decide_eq_false (show ¬ x<10000 by omega),Bool.and_false]);rw [hb0] at hb;subst hb;(conv=>whnf);exact GL (v:=v72 ⟨l,m,n,c1,c2,x,false⟩) (m0 rfl) (dE rfl) (fun _ _ h=>h) hK (Nat.le_refl _)
  ·have g2:¬ 10000≤x:=(by simpa [aA,aC] using g2);have hb0:MC x=true:=(by unfold MC;rw [decide_eq_true (show 0≤x by omega),decide_eq_true (show x<10000 by omega)];rfl);rw [hb0] at hb;subst hb;have hll:=VP (l:=l) (m:=m) (x:=x);(conv=>whnf);refine⟨_,l,m,n,x,rfl,aGi hW (hN _ (by decide)),⟨by omega,by omega⟩,?_⟩;have hv:v72 ⟨l,m,n,c1,c2,x,true⟩=.tuple #[.slice (some ⟨2009,0,none⟩) (G0 m (nR l m x) (nR l m x).length).length (G0 m (nR l m x) (nR l m x).length).length,iv 0]:=rfl;have hh:h72 ⟨l,m,n,c1,c2,x,true⟩=(2009,.cells true false 1 (flat aO.fl (G0 m (nR l m x) (nR l m x).length)))::H5 l m n c1 c2 [iv x]:=rfl;rw [hv,hh];clear hv hh;generalize nR l m x=S at *;cases S with
   |nil =>
    (conv=>whnf);refine⟨fun q e h nx=>q=0∧e=e72 aP 1 0 0∧h=[(2009,.cells true false 1 (flat aO.fl [0]))]++H5 l m n c1 c2 [iv x]∧nx=2010,⟨0,?_⟩,?_⟩
    ·refine c8 (P:=[(2009,.cells true false 1 (flat aO.fl [0]))]) (W:=H5 l m n c1 c2 [iv x]) (e0:=e72 aP 1 0 0) (n0:=2010) [] ⟨rfl,rfl,rfl,rfl⟩ ?_ hK ?_ ?_ ?_ (fun _ h=>(by cases h)) (by omega)
     ·unfold e72;((repeat' refine iE rfl rfl ?_);exact iN)
     ·exact cJ (fun _ _ h=>h) (hN _ (by decide))
     ·exact List.forall_mem_cons.2 ⟨⟨.inl ⟨Nat.le_of_ble_eq_true rfl,Nat.le_of_ble_eq_true rfl,Nat.le_of_ble_eq_true rfl⟩,_,rfl,aW (aF _ _) rfl⟩,fun _ h=>(by cases h)⟩
     ·show ∀ k∈[2009],∀ k'∈[2009],_;decide
    ·rintro q e h nx ⟨rfl,rfl,rfl,rfl⟩;unfold e72;(conv=>whnf);exact aEE (P:=[(2009,.cells true false 1 (flat aO.fl [0]))]) 1 [0] rfl hK
   |cons a t =>
    obtain⟨S,hS⟩:∃ S,a::t=S:=⟨_,rfl⟩;rw [hS] at hin hll ⊢;have hS0:0<S.length:=(by rw [← hS];exact Nat.succ_pos _);clear hS;have h400:m.length≤1000:=hlm.2;refine V7 aO hS0 ?_;(conv=>whnf);refine⟨fun q e h nx=>∃ (i:Nat) (j:Int),j=i∧i≤S.length∧q=S.length - i∧e=e72 (.slice (some ⟨2010,0,none⟩) S.length S.length) (G0 m S i).length S.length j∧h=[(2010,.cells true false 1 (flat aO.fl S)),(2009,.cells true false 1 (flat aO.fl (G0 m S i)))]++H5 l m n c1 c2 [iv x]∧nx=2011,⟨S.length,?_⟩,?_⟩
    ·refine c8 (P:=[(2010,.cells true false 1 (flat aO.fl S)),(2009,.cells true false 1 (flat aO.fl [0]))]) (W:=H5 l m n c1 c2 [iv x]) (e0:=e72 (.slice (some ⟨2010,0,none⟩) S.length S.length) 1 S.length 0) (n0:=2011) [] ⟨0,0,rfl,Nat.zero_le _,rfl,rfl,rfl,rfl⟩ ?_ hK ?_ ?_ ?_ (fun _ h=>(by cases h)) (by omega)
     ·unfold e72;((repeat' refine iE rfl rfl ?_);exact iN)
     ·exact cJ (cJ (fun _ _ h=>h) (hN _ (by decide))) (hN _ (by decide))
     ·exact List.forall_mem_cons.2 ⟨⟨.inl ⟨Nat.le_of_ble_eq_true rfl,Nat.le_of_ble_eq_true rfl,Nat.le_of_ble_eq_true rfl⟩,_,rfl,aN (aF _ _)⟩,List.forall_mem_cons.2 ⟨⟨.inl ⟨Nat.le_of_ble_eq_true rfl,Nat.le_of_ble_eq_true rfl,Nat.le_of_ble_eq_true rfl⟩,_,rfl,aW (aF _ _) rfl⟩,fun _ h=>(by cases h)⟩⟩
     ·show ∀ k∈[2010,2009],∀ k'∈[2010,2009],_;decide
    ·rintro q e h nx ⟨i,j,hj,hi,rfl,rfl,rfl,rfl⟩;have hcl:=KX m S i;have hlen:(flat aO.fl (G0 m S i)).length=(G0 m S i).length:=(by rw [bE];show _*1=_;omega);unfold e72 H5;((conv=>whnf);refine bm (fun m1=>?_) (fun m1=>?_))
     ·have hil:i<S.length:=(by simp [aA,aC] at m1;omega);have hy:=hin (aM S i) (by rw [dD hil];exact List.getElem_mem hil);have hf:G0 m S (i+1)=G0 m S i++[(cC m (aM S i).toNat).l]:=rfl;((conv=>whnf);refine bm (fun m2=>?_) (fun m2=>?_))
      ·(conv=>whnf);refine iB (fN S (i:=i) hil ?_) ?_
       ·show _+Int.toNat j*1=_;omega
       ((conv=>whnf);refine bm (fun m3=>?_) (fun m3=>?_))
       ·(conv=>whnf);refine iB (HU m 2 (i:=(aM S i).toNat) (by omega) rfl (by decide) ?_) ?_
        ·show _+Int.toNat (aM S i)*5+2=_;omega
        ((conv=>whnf);refine bm (fun m4=>?_) (fun m4=>?_))
        ·exfalso;have:=Nat.le_of_ble_eq_true m4;omega
        ·((conv=>whnf);refine bm (fun m5=>?_) (fun m5=>?_))
         ·((conv=>whnf);refine bm (fun m6=>?_) (fun m6=>?_))
          ·(conv=>whnf);refine⟨S.length - (i+1),by omega,?_⟩;refine c8 (P:=[(2010,.cells true false 1 (flat aO.fl S)),(2009,.cells true false 1 (flat aO.fl (G0 m S i++[(cC m (aM S i).toNat).l])))]) (W:=H5 l m n c1 c2 [iv x]) (e0:=e72 (.slice (some ⟨2010,0,none⟩) S.length S.length) ((G0 m S i).length+1) S.length (j+1)) (n0:=2011) [(2009,2012)] ⟨i+1,j+1,by omega,by omega,rfl,?_,?_,rfl⟩ ?_ hK ?_ ?_ ?_ ?_ (by omega)
           ·rw [hf,List.length_append];rfl
           ·rw [hf];rfl
           ·unfold e72;((repeat' refine iE rfl rfl ?_);exact iN)
           ·repeat' first
             |exact fun _ _ h=>h
             |(refine cJ ?_ (hN _ (by decide)))
             |(refine fY ?_ (hN _ (by decide)))
             |(refine ext_cons ?_ (hN _ (by decide)))
             |(refine CY ?_ (hN _ (by decide)))
           ·exact List.forall_mem_cons.2 ⟨⟨.inl ⟨Nat.le_of_ble_eq_true rfl,Nat.le_of_ble_eq_true rfl,Nat.le_of_ble_eq_true rfl⟩,_,rfl,aN (aF _ _)⟩,List.forall_mem_cons.2 ⟨⟨.inl ⟨Nat.le_of_ble_eq_true rfl,Nat.le_of_ble_eq_true rfl,Nat.le_of_ble_eq_true rfl⟩,_,rfl,aW (aF aO _) (c9 aO (G0 m S i) (cC m (aM S i).toNat).l rfl)⟩,fun _ h=>(by cases h)⟩⟩
           ·show ∀ k∈[2010,2009],∀ k'∈[2010,2009],_;decide
           ·exact fun p h=>by rcases List.mem_cons.1 h with rfl|h;exact Nat.le_refl _;cases h
          ·exfalso;simp [aA,aC,aH] at m6;omega
         ·exact m7 (s:=1) (by omega) (by omega) m5
       ·exfalso;simp [aA,aC] at m3;omega
      ·exfalso;simp [aA,aC] at m2;omega
     ·have hil:i=S.length:=(by simp [aA,aC] at m1;omega);(conv=>whnf);rw [← hil];exact aEE (P:=[(2010,.cells true false 1 (flat aO.fl S)),(2009,.cells true false 1 (flat aO.fl (G0 m S i)))]) (G0 m S i).length (G0 m S i) rfl hK (ext_cons (fun _ _ h=>h) (by rw [bD (by decide)];exact hN _ (by decide)))
 ·have g1:¬ 0≤x:=(by simpa [aA,aC] using g1);have hb0:MC x=false:=(by unfold MC;rw [decide_eq_false g1];rfl);rw [hb0] at hb;subst hb;(conv=>whnf);exact GL (v:=v72 ⟨l,m,n,c1,c2,x,false⟩) (m0 rfl) (dE rfl) (fun _ _ h=>h) hK (Nat.le_refl _)
end Go.Aw
end
