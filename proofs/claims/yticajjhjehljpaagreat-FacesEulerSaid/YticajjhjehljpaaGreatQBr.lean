/-
  FacesEuler No condition.
-/
import Derived.Test.YticajjhjehljpaaGreatQAp
import Derived.Test.YticajjhjehljpaaGreatQAq
import Derived.Test.YticajjhjehljpaaGreatQAv
import Derived.Test.YticajjhjehljpaaGreatQBm
import Derived.Test.YticajjhjehljpaaGreatQBn
import Derived.Test.YticajjhjehljpaaGreatQBq
set_option linter.unusedSimpArgs false
set_option linter.unusedVariables false
noncomputable section
namespace Go.Aw
set_option maxRecDepth 100000
open Classical in
theorem aDn {R:Nat→Nat→Prop}{f k:Nat→Nat}{N K:Nat}(hR:∀ u v,u<N→v<N→(R u v↔f u=f v))(hf:∀ d,d<N→f d<K)(hk:∀ g,g<K→k g<N∧f (k g)=g∧∀ j,j<k g→f j≠g):OT R N=K:=by
 have e1:∀ d,d<N→ldr R d=sN (fun g=>if d=k g then 1 else 0) K:=fun d hd=>by
  have h1:=hk (f d) (hf d hd);have:sN (fun g=>if d=k g then (1:Int) else 0) K=sN (fun g=>if g=f d then (if d=k (f d) then 1 else 0) else 0) K:=cB fun g hg=>by
   by_cases e:g=f d
   ·rw [if_pos e,e]
   ·rw [if_neg e,if_neg (fun x=>e (by rw [x];exact (hk g hg).2.1.symm))]
  rw [this,lI,if_pos (hf d hd)];unfold ldr;by_cases e:d=k (f d)
  ·rw [if_pos e,if_pos];intro u hu hr;have:=(hR u d (by omega) hd).1 hr;exact h1.2.2 u (by omega) this
  ·rw [if_neg e,if_neg];intro h;refine h (k (f d)) ?_ ((hR _ _ h1.1 hd).2 h1.2.1);refine Nat.lt_of_not_le fun hle=>?_;exact h1.2.2 d (by omega) rfl
 unfold OT;rw [cB e1,J2 (fun d g=>if d=k g then 1 else 0) K N];have e2:∀ g,g<K→sN (fun d=>if d=k g then (1:Int) else 0) N=1:=fun g hg=>(by rw [lI,if_pos (hk g hg).1]);rw [cB e2];clear e1 e2 hk hf hR
 induction K with
 |zero=>rfl
 |succ K ih=>rw [sN,ih];omega
theorem aGs (N:Nat):sN (fun _=>1) N=N:=by
 induction N with
 |zero=>rfl
 |succ K ih=>rw [sN,ih];omega
section
variable {l:List Pt}{m:List Ed}{n:Int}
def OH (l:List Pt)(m:List Ed)(d:Nat):Int:=aH (bX l m).face d
theorem aDH (ho:cZ l m n=true){u v:Nat}(hu:u<2*m.length)(hv:v<2*m.length):Wk (qL l m) (2*m.length) u v↔OH l m u=OH l m v:=by
 have ho':=ho;simp only [cZ,iP,Bool.and_eq_true,decide_eq_true_eq] at ho';obtain⟨⟨hok,hpl⟩,_,hn,hmn,_⟩:=ho';have hp:iP l m n=true:=(by simp only [cZ,Bool.and_eq_true] at ho;exact ho.1);have o:=QF hok (2*m.length) (Nat.le_refl _);have hsn:=(BS hp (2*m.length) (Nat.le_refl _)).2;have e:bS l (aL l m m.length) (outs l m) (2*m.length)=bX l m:=(by unfold bX nmD;rw [aY]);rw [e] at o hsn;simp only [vC,Bool.and_eq_true,decide_eq_true_eq,Bool.not_eq_true'] at hn;constructor
 ·refine X7 (oM hp).prm (OH l m) (fun d hd=>?_) u v;have:=o.con d hd (hsn d hd);exact this
 ·intro h;obtain⟨k,hk⟩:=o.orb u v hu hv (hsn u hu) (hsn v hv) h (.inr ⟨by omega,hn.2⟩);have:=aH0 hok hu k;exact .inr ⟨hu,k,by omega⟩
theorem VH (ho:cZ l m n=true):(l.length:Int) - m.length+n=1:=by
 have hp:iP l m n=true:=(by simp only [cZ,Bool.and_eq_true] at ho;exact ho.1);have hc:VO l m=true:=by
  have hv:=(aGW l m n).symm.trans ho;simp only [aFS,Bool.and_eq_true] at hv;exact hv.2.1
 have he:=(aFg hp hc).aID;obtain⟨K,hK⟩:∃ K:Nat,(K:Int)=n+1:=⟨(n+1).toNat,by have:=aEn ho;omega⟩;have hk:∀ g:Nat,g<K→∃ k,k<2*m.length∧aH (bX l m).face k=g∧(∀ j,j<k→aH (bX l m).face j≠g):=fun g hg=>by
  obtain⟨k,h1,h2,h3,_⟩:=xN ho (f:=(g:Int)) (by omega) (by omega);exact⟨k,h1,h2,h3⟩
 obtain⟨k,hk⟩:∃ k:Nat→Nat,∀ g:Nat,g<K→k g<2*m.length∧aH (bX l m).face (k g)=g∧(∀ j,j<k g→aH (bX l m).face j≠g) :=
  ⟨fun g=>if h:g<K then (hk g h).choose else 0,fun g hg=>by simp only [dif_pos hg];exact (hk g hg).choose_spec⟩
 have hr:=fun d (hd:d<2*m.length)=>uP ho hd;have:=aDn (R:=Wk (qL l m) (2*m.length)) (f:=fun d=>(OH l m d).toNat) (k:=k) (N:=2*m.length) (K:=K) (fun u v hu hv=>by
  rw [aDH ho hu hv];have h1:=hr u hu;have h2:=hr v hv;simp only [OH];omega) (fun d hd=>by have:=hr d hd;simp only [OH];omega) (fun g hg=>by
  obtain⟨h1,h2,h3⟩:=hk g hg;refine⟨h1,by simp only [OH];omega,fun j hj e=>h3 j hj ?_⟩;have:=hr j (by omega);simp only [OH] at e;omega)
 rw [this] at he;omega
theorem aCD {L:List Int}{N:Nat}{P:Nat→Prop}[DecidablePred P](hn:L.Nodup)(hm:∀ x,x∈L↔∃ d:Nat,x=d∧d<N∧P d):(L.length:Int)=sN (fun d=>if P d then 1 else 0) N:=by
 have hp:L.Perm (((List.range N).filter fun d=>decide (P d)).map fun d:Nat=>(d:Int)):=by
  refine (List.perm_ext_iff_of_nodup hn ?_).2 fun x=>?_
  ·exact List.pairwise_map.2 (List.Pairwise.imp (R:=fun a b:Nat=>a≠b) (S:=fun a b:Nat=>(a:Int)≠b) (fun {a b} h e=>h (by omega)) (List.Pairwise.filter _ List.nodup_range))
  ·rw [hm];simp only [List.mem_map,List.mem_filter,List.mem_range,decide_eq_true_eq];exact⟨fun ⟨d,e,h1,h2⟩=>⟨d,⟨h1,h2⟩,e.symm⟩,fun ⟨d,⟨h1,h2⟩,e⟩=>⟨d,e.symm,h1,h2⟩⟩
 rw [hp.length_eq,List.length_map];clear hm hn hp
 induction N with
 |zero=>rfl
 |succ N ih =>
  rw [List.range_succ,List.filter_append,List.length_append,sN,← ih];by_cases h:P N
  ·rw [if_pos h,List.filter_cons_of_pos (by simpa using h)];simp
  ·rw [if_neg h,List.filter_cons_of_neg (by simpa using h)];simp
theorem Y3 (ho:cZ l m n=true){f:Int}(h0:0≤f)(h1:f≤n):(GI l m f).Nodup:=by
 have hok:=kD ho;obtain⟨k,b1,b2,b3,b4⟩:=xN ho h0 h1;have hfw:GI l m f=nS (aL l m m.length) (outs l m) k:=(by unfold GI;rw [b4]);rw [hfw];unfold nS;refine List.pairwise_map.2 (List.Pairwise.imp_of_mem (R:=fun i k=>i<k) (fun {i j} hi hj hlt e=>?_) List.pairwise_lt_range);have hj:=List.mem_range.1 hj;have hlow:=(gP (aL l m m.length) (outs l m) k (aL l m m.length).length 1).2.2;obtain⟨t,rfl⟩:∃ t,j=i+t:=⟨j - i,by omega⟩;have:=KK hok (d:=(k:Int)) (by omega) (by omega) i t e;exact hlow t (by omega) (by unfold gB at hj;omega) this.symm
theorem aG3 (ho:cZ l m n=true){f:Int}(h0:0≤f)(h1:f≤n):((GI l m f).length:Int)=sN (fun d=>if OH l m d=f then 1 else 0) (2*m.length):=by
 refine aCD (P:=fun d=>OH l m d=f) (Y3 ho h0 h1) fun x=>?_;constructor
 ·intro hx;have hin:=(aIk ho (f:=f) (by simp [GB,h0,h1])).1;have:=List.all_eq_true.1 hin x hx;simp only [inD,Bool.and_eq_true,decide_eq_true_eq] at this;obtain⟨d,rfl⟩:∃ d:Nat,x=d:=⟨x.toNat,by omega⟩;exact⟨d,rfl,by omega,(aB0 ho h0 h1 (by omega)).1 hx⟩
 ·rintro ⟨d,rfl,hd,e⟩;exact (aB0 ho h0 h1 hd).2 e
theorem aG2 (ho:cZ l m n=true):∀ k:Nat,(k:Int)≤n+1→sN (fun f=>((yL l m f).length:Int)) k=sN (fun d=>if OH l m d<k then 1 else 0) (2*m.length):=fun k=>by
 induction k with
 |zero =>
  intro _;rw [sN];have:∀ d,d<2*m.length→(if OH l m d<((0:Nat):Int) then (1:Int) else 0)=0:=fun d hd=>if_neg (by have:=(uP ho hd).1;unfold OH;omega);rw [cB this,CP]
 |succ k ih =>
  intro hk;rw [sN,ih (by omega)];have:(yL l m (k:Int)).length=(GI l m k).length:=(by unfold yL;rw [xK]);rw [this,aG3 ho (by omega) (by omega),← zE];exact cB fun d hd=>by
   by_cases e:OH l m d=k
   ·rw [if_pos e,if_neg (by omega),if_pos (by omega)];rfl
   ·by_cases e2:OH l m d<k
    ·rw [if_pos e2,if_neg e,if_pos (by omega)];rfl
    ·rw [if_neg e2,if_neg e,if_neg (by omega)];rfl
theorem aGw (ho:cZ l m n=true){k:Nat}(hk:(k:Int)=n+1):sN (fun f=>((yL l m f).length:Int)) k=2*m.length:=by
 rw [aG2 ho k (by omega)];have:∀ d,d<2*m.length→(if OH l m d<k then (1:Int) else 0)=1:=fun d hd=>if_pos (by have:=(uP ho hd).2;unfold OH;omega);rw [cB this,aGs];omega
end
end Go.Aw
end

noncomputable section
namespace Go.Aw
set_option maxRecDepth 100000
set_option maxHeartbeats 2000000
def hdI (m:List Ed)(d:Int):Int:=if d % 2=0 then (dG m (d / 2).toNat).b else (dG m (d / 2).toNat).a
def tlI (m:List Ed)(d:Int):Int:=if d % 2=0 then (dG m (d / 2).toNat).a else (dG m (d / 2).toNat).b
def aGV:Nat × XF:=(14,mX a8 aX (sMD fun l m n d=>(inD m d,iv (hdI m d))))
theorem aKc:dK Go.Proofs.Tryz.prog aGV.1 aGV.2:=AQ a8 aX (aR (xl:=[]) .nil) fun l m n r v hs=>by
 obtain⟨d,rfl,hd,rfl⟩:=IP hs;simp only [inD,Bool.and_eq_true,decide_eq_true_eq] at hd;have q1:d.tdiv 2=d / 2:=Int.tdiv_eq_ediv_of_nonneg hd.1.1;have q2:d.tmod 2=d % 2:=Int.tmod_eq_emod_of_nonneg hd.1.1;refine⟨rfl,rfl,fun c1 c2=>?_⟩;((conv=>whnf);refine bm (fun h4=>?_) (fun h4=>?_))
 ·have h4:decide (d.tmod 2=0)=true:=h4;simp only [q2,decide_eq_true_eq] at h4
  repeat' first
   |(((conv=>whnf);refine bm (fun g=>?_) (fun g=>?_)))
   |((conv=>whnf)
     refine lD (L9 m 1 (i:=(d / 2).toNat) (by omega) rfl (by decide) ?_) ?_
     ·show _+Int.toNat (d.tdiv 2)*5+1=_;rw [q1];omega)
  all_goals first
   |((conv=>whnf)
     simp only [hdI,if_pos h4])
   |(exfalso;simp [aA,aG,q1,aK] at *;first|omega|(simp_all;omega))
 ·have h4:decide (d.tmod 2=0)=false:=h4;simp only [q2,decide_eq_false_iff_not] at h4
  repeat' first
   |(((conv=>whnf);refine bm (fun g=>?_) (fun g=>?_)))
   |((conv=>whnf)
     refine lD (L9 m 0 (i:=(d / 2).toNat) (by omega) rfl (by decide) ?_) ?_
     ·show _+Int.toNat (d.tdiv 2)*5=_;rw [q1];omega)
  all_goals first
   |((conv=>whnf)
     simp only [hdI,if_neg h4])
   |(exfalso;simp [aA,aG,q1,aK] at *;first|omega|(simp_all;omega))
def aFX:Nat × XF:=(15,mX a8 aX (sMD fun l m n d=>(inD m d,iv (tlI m d))))
theorem aK8:dK Go.Proofs.Tryz.prog aFX.1 aFX.2:=AQ a8 aX (aR (xl:=[]) .nil) fun l m n r v hs=>by
 obtain⟨d,rfl,hd,rfl⟩:=IP hs;simp only [inD,Bool.and_eq_true,decide_eq_true_eq] at hd;have q1:d.tdiv 2=d / 2:=Int.tdiv_eq_ediv_of_nonneg hd.1.1;have q2:d.tmod 2=d % 2:=Int.tmod_eq_emod_of_nonneg hd.1.1;refine⟨rfl,rfl,fun c1 c2=>?_⟩;((conv=>whnf);refine bm (fun h4=>?_) (fun h4=>?_))
 ·have h4:decide (d.tmod 2=0)=true:=h4;simp only [q2,decide_eq_true_eq] at h4
  repeat' first
   |(((conv=>whnf);refine bm (fun g=>?_) (fun g=>?_)))
   |((conv=>whnf)
     refine lD (L9 m 0 (i:=(d / 2).toNat) (by omega) rfl (by decide) ?_) ?_
     ·show _+Int.toNat (d.tdiv 2)*5=_;rw [q1];omega)
  all_goals first
   |((conv=>whnf)
     simp only [tlI,if_pos h4])
   |(exfalso;simp [aA,aG,q1,aK] at *;first|omega|(simp_all;omega))
 ·have h4:decide (d.tmod 2=0)=false:=h4;simp only [q2,decide_eq_false_iff_not] at h4
  repeat' first
   |(((conv=>whnf);refine bm (fun g=>?_) (fun g=>?_)))
   |((conv=>whnf)
     refine lD (L9 m 1 (i:=(d / 2).toNat) (by omega) rfl (by decide) ?_) ?_
     ·show _+Int.toNat (d.tdiv 2)*5+1=_;rw [q1];omega)
  all_goals first
   |((conv=>whnf)
     simp only [tlI,if_neg h4])
   |(exfalso;simp [aA,aG,q1,aK] at *;first|omega|(simp_all;omega))
theorem aET {l:List Pt}{m:List Ed}(h1:(!(decide ((l.length:Int)≤60)&&decide ((m.length:Int)≤60)))=false):l.length≤1000∧m.length≤1000:=by
 have h1:(decide ((l.length:Int)≤60)&&decide ((m.length:Int)≤60))=true:=(by simpa using h1);simp only [Bool.and_eq_true,decide_eq_true_eq] at h1;omega
def TY (l:List Pt)(m:List Ed):Nat→List Bool
 |0=>List.replicate (2*m.length) false
 |i+1=>(TY l m i).set (qL l m i) true
theorem I3 (l:List Pt)(m:List Ed):∀ i,(TY l m i).length=2*m.length
 |0=>List.length_replicate
 |i+1=>by unfold TY;rw [List.length_set];exact I3 l m i
theorem ZG {l:List Pt}{m:List Ed}{n:Int}(hok:cL l m n=true):∀ i k,i≤k→k<2*m.length→cM (TY l m i) (qL l m k)=false
 |0,k,_,hk=>by
  have:=(rL hok hk).2;unfold TY cM;rw [List.getD_eq_getElem?_getD,List.getElem?_replicate];split <;> rfl
 |i+1,k,h,hk=>by
  unfold TY;rw [kT _ _ _ _ (by rw [I3];exact (rL hok (by omega)).2),if_neg]
  ·exact ZG hok i k (by omega) hk
  ·intro e;have e1:=rL hok (d:=k) hk;have e2:=rL hok (d:=i) (by omega);have:=aB4 hok (d:=(k:Int)) (d':=(i:Int)) (by omega) (by omega) (by omega) (by omega) (by rw [← e1.1,← e2.1,e]);omega
theorem aIy {l:List Pt}{m:List Ed}{n:Int}(hok:cL l m n=true){d:Nat}(hd:d<2*m.length):hdI m (d:Int)=tlI m (qL l m d:Nat):=by
 have hm:=CL hok hd;have hn:=(rL hok hd).2;have e1:=o9 hok (i:=d / 2) (by omega);have e2:=o9 hok (i:=qL l m d / 2) (by omega);unfold tS fD aN bN at hm;unfold hdI tlI;rw [show (((d:Nat):Int) / 2).toNat=d / 2 by omega,show (((qL l m d:Nat):Int) / 2).toNat=qL l m d / 2 by omega];by_cases g1:d % 2=0
 ·rw [if_pos g1] at hm;rw [if_pos (by omega)];by_cases g2:qL l m d % 2=0
  ·rw [if_pos g2] at hm;rw [if_pos (by omega)];omega
  ·rw [if_neg g2] at hm;rw [if_neg (by omega)];omega
 ·rw [if_neg g1] at hm;rw [if_neg (by omega)];by_cases g2:qL l m d % 2=0
  ·rw [if_pos g2] at hm;rw [if_pos (by omega)];omega
  ·rw [if_neg g2] at hm;rw [if_neg (by omega)];omega
def e3a (a j:Int):List (Nat × Value):=[(1,.pointer (some ⟨2,0,none⟩)),(3,iv a),(4,iv j)]
def XT (l:List Pt)(m:List Ed)(c1 c2:Nat)(n:Int):Heap:=(2,bI l.length m.length c1 c2 n)::aE a8 aX l m
def e3b (N:Nat)(a j:Int):List (Nat × Value):=[(1,.pointer (some ⟨2,0,none⟩)),(3,iv a),(7,.slice (some ⟨3,0,none⟩) N N),(8,iv j)]
def h3b (l:List Pt)(m:List Ed)(c1 c2:Nat)(n:Int)(S:List Bool):Heap:=(3,.cells true false 1 (flat lU.fl S))::XT l m c1 c2 n
theorem w3 (l:List Pt)(m:List Ed)(n:Int)(c1 c2:Nat):body [aF5,X16,aGS,aGA,aGb,aGV,aFX] 3 [aC l.length m.length c1 c2 n] (aE a8 aX l m) 2 (fun v _ _=>v=.bool true):=by
 (conv=>whnf);refine⟨l,m,bJ a8 rfl,bJ aX rfl,?_⟩;((conv=>whnf);refine bm (fun h1=>?_) (fun h1=>?_))
 ·have h1':(!(decide ((l.length:Int)≤60)&&decide ((m.length:Int)≤60)))=false:=(by simpa [aA,aG] using h1);have hlm:l.length≤1000∧m.length≤1000:=aET h1';have hsm:=smB hlm;have hck:ckP l m n ([].append #[].toList)=some (true,iv (if cZ l m n=true then 0 else 1)):=(by show ckP l m n []=_;unfold ckP;rw [hsm]);refine⟨l,m,bJ a8 rfl,bJ aX rfl,?_⟩;rw [hck];refine aJ rfl ?_;cases ho:cZ l m n with
  |false=>(conv=>whnf)
  |true =>
   have heu:=VH ho;have hok:=kD ho;have hn1:=aEn ho;obtain⟨K,hK⟩:∃ K:Nat,(K:Int)=n+1:=⟨(n+1).toNat,by omega⟩;have hall:=aGw ho hK;have hle:∀ k,k≤K→0≤sN (fun f=>((yL l m f).length:Int)) k∧sN (fun f=>((yL l m f).length:Int)) k≤2*m.length:=fun k hk=>by
    have mono:∀ j i:Nat,sN (fun f=>((yL l m f).length:Int)) i≤sN (fun f=>((yL l m f).length:Int)) (i+j):=fun j=>by
     induction j with
     |zero=>intro i;exact Int.le_refl _
     |succ j ih=>intro i;have:=ih i;rw [show i+(j+1)=(i+j)+1 by omega,sN];omega
    have a:=mono k 0;have b:=mono (K - k) k;rw [show k+(K - k)=K by omega,hall] at b;rw [Nat.zero_add] at a;exact⟨a,b⟩
   obtain⟨S,hS⟩:∃ S:Nat→Int,S=sN (fun f=>((yL l m f).length:Int)):=⟨_,rfl⟩;rw [← hS] at hall hle;have hSs:∀ k,S (k+1)=S k+(yL l m k).length:=fun k=>(by rw [hS];rfl);have hS0:S 0=0:=by rw [hS];rfl
   repeat' ((conv=>whnf);refine bm (fun g=>?_) (fun g=>?_))
   ·exfalso;rename_i g1 g2;have g:decide ((l.length:Int) - m.length+n=1)=false:=(by simpa [aA,aG] using g);simp only [decide_eq_false_iff_not] at g;omega
   ·(conv=>whnf);refine⟨fun q e h nx=>∃ (i:Nat) (j:Int),j=i∧i≤K∧q=K - i∧e=e3a (S i) j∧h=XT l m c1 c2 n∧nx=3,⟨K,?_⟩,?_⟩
    ·refine c8 (e0:=e3a 0 0) (h0:=XT l m c1 c2 n) (n0:=3) ⟨0,0,rfl,Nat.zero_le _,rfl,by rw [hS0],rfl,rfl⟩ ?_ ?_ (by decide)
     ·unfold e3a;((repeat' refine iE rfl rfl ?_);exact iN)
     ·unfold XT bI aE;((repeat'(first|refine iF rfl rfl ?_|refine iC rfl rfl rfl ?_|refine iJ rfl rfl rfl rfl ?_));exact iN)
    ·rintro q e h nx ⟨i,j,hj,hi,rfl,rfl,rfl,rfl⟩;unfold e3a XT bI aE;((conv=>whnf);refine bm (fun m1=>?_) (fun m1=>?_))
     ·have hin:(i:Int)≤n:=(by simp [aA,aG] at m1;omega);have hfb:xS l m n j=true:=(by unfold xS;rw [ho,decide_eq_true (by omega:(0:Int)≤j),decide_eq_true (by omega:j≤n)];rfl);have h24:wlP l m n [iv j]=some (decide (l.length≤1000)&&decide (m.length≤1000),yL l m j,some 0):=by
       show some (_,(if xS l m n j=true then yL l m j else []),some (if xS l m n j=true then 0 else 1))=_;rw [hfb];rfl
      have hb:=hle (i+1) (by omega);have hb0:=hle i hi;have hst:=hSs i;rw [← hj] at hst;have hsl:((yL l m j).length:Int)=S (i+1) - S i:=(by omega);(conv=>whnf);refine⟨_,_,_,[iv j],l,m,rfl,bJ a8 rfl,bJ aX rfl,?_⟩;rw [h24];refine aJ hsm ?_;generalize yL l m j=O at *;cases O with
      |nil =>
       repeat' ((conv=>whnf);refine bm (fun g=>?_) (fun g=>?_))
       all_goals first
        |((conv=>whnf)
          refine⟨K - (i+1),by omega,?_⟩;refine c8 (e0:=e3a (S i+(([]:List Int).length:Int)) (j+1)) (h0:=XT l m c1 c2 n) (n0:=3) ⟨i+1,j+1,by omega,by omega,rfl,by rw [hst];rfl,rfl,rfl⟩ ?_ ?_ (by decide)
          ·unfold e3a;((repeat' refine iE rfl rfl ?_);exact iN)
          ·unfold XT bI aE;((repeat'(first|refine iF rfl rfl ?_|refine iC rfl rfl rfl ?_|refine iJ rfl rfl rfl rfl ?_));exact iN))
        |(exfalso;simp [aA,aG,aK] at *;omega)
      |cons x t =>
       repeat' ((conv=>whnf);refine bm (fun g=>?_) (fun g=>?_))
       all_goals first
        |((conv=>whnf)
          refine⟨K - (i+1),by omega,?_⟩;refine c8 (e0:=e3a (S i+((x::t).length:Int)) (j+1)) (h0:=XT l m c1 c2 n) (n0:=3) ⟨i+1,j+1,by omega,by omega,rfl,by rw [hst];rfl,rfl,rfl⟩ ?_ ?_ (by decide)
          ·unfold e3a;((repeat' refine iE rfl rfl ?_);exact iN)
          ·unfold XT bI aE;((repeat'(first|refine iF rfl rfl ?_|refine iC rfl rfl rfl ?_|refine iJ rfl rfl rfl rfl ?_));exact iN))
        |(exfalso;simp [aA,aG,aK] at *;omega)
     ·have hin:i=K:=(by simp [aA,aG] at m1;omega);have hSi:S i=2*m.length:=(by rw [hin];exact hall);rw [hSi];clear hSs hS0 hle hall hS hck heu m1 hSi hi hj hin
      repeat' ((conv=>whnf);refine bm (fun q=>?_) (fun q=>?_))
      all_goals try (exfalso;clear h1;simp [aA,aG,aK] at *;omega)
      (conv=>whnf);have hN:(2*(m.length:Int)).toNat=2*m.length:=(by omega);have hrep:rep (2*(m.length:Int)).toNat [Value.bool false]=flat lU.fl (TY l m 0):=(by rw [hN,KV];rfl);refine⟨fun q e h nx=>∃ (i:Nat) (j:Int),j=i∧i≤2*m.length∧q=2*m.length - i∧e=e3b (2*(m.length:Int)).toNat (2*m.length) j∧h=h3b l m c1 c2 n (TY l m i)∧nx=4,⟨2*m.length,?_⟩,?_⟩
      ·refine c8 (e0:=e3b (2*(m.length:Int)).toNat (2*m.length) 0) (h0:=h3b l m c1 c2 n (TY l m 0)) (n0:=4) ⟨0,0,rfl,Nat.zero_le _,rfl,rfl,rfl,rfl⟩ ?_ ?_ (by decide)
       ·unfold e3b;((repeat' refine iE rfl rfl ?_);exact iN)
       ·unfold h3b XT bI aE;((repeat'(first|refine iW rfl rfl (cV (aF lU _) hrep) ?_|refine iF rfl rfl ?_|refine iC rfl rfl rfl ?_|refine iJ rfl rfl rfl rfl ?_));exact iN)
      ·rintro q e h nx ⟨i,j,hj,hi,rfl,rfl,rfl,rfl⟩;have hlen:=I3 l m i;unfold e3b h3b XT bI aE;((conv=>whnf);refine bm (fun m0=>?_) (fun m0=>?_));((conv=>whnf);refine bm (fun m1=>?_) (fun m1=>?_))
       ·have hil:i<2*m.length:=(by simp [aA,aG] at m1;omega);have hnx:=rL hok hil;have hb:FN l m n j=true:=(by unfold FN;rw [ho,decide_eq_true (by omega:(0:Int)≤j),decide_eq_true (by omega:j<2*m.length)];rfl);have hnj:qV (aL l m m.length) (outs l m) j=((qL l m i:Nat):Int):=(by rw [hj];exact hnx.1.symm);(conv=>whnf);refine⟨l,m,bJ a8 rfl,bJ aX rfl,?_⟩;refine aJ hsm ?_;rw [hb,if_pos rfl,if_pos rfl,hnj];have hno:=ZG hok i i (Nat.le_refl _) hil;have hht:=aIy hok hil;have hse:TY l m (i+1)=(TY l m i).set (qL l m i) true:=rfl;rw [← hj] at hht;generalize TY l m i=T at *;((conv=>whnf);refine bm (fun a1=>?_) (fun a1=>?_))
        ·((conv=>whnf);refine bm (fun a2=>?_) (fun a2=>?_))
         ·refine lD (aC6 T (i:=qL l m i) (by omega) ?_) ?_
          ·show _+Int.toNat ((qL l m i:Nat):Int)*1=_;omega
          rw [hno];(conv=>whnf);refine⟨l,m,bJ a8 rfl,bJ aX rfl,?_⟩;refine aJ (by simp [inD];omega) ?_;(conv=>whnf);refine⟨l,m,bJ a8 rfl,bJ aX rfl,?_⟩;refine aJ (by simp [inD];omega) ?_;((conv=>whnf);refine bm (fun a4=>?_) (fun a4=>?_))
          ·exfalso;simp [aA,aG] at a4;exact a4 hht
          ·((conv=>whnf);refine bm (fun a5=>?_) (fun a5=>?_))
           ·((conv=>whnf);refine bm (fun a6=>?_) (fun a6=>?_))
            ·((conv=>whnf);refine bm (fun a7=>?_) (fun a7=>?_))
             ·have cC:eC (flat lU.fl T) (0+Int.toNat ((qL l m i:Nat):Int)*1) [.bool true]=flat lU.fl (TY l m (i+1)):=by
               rw [hse,show 0+Int.toNat ((qL l m i:Nat):Int)*1=qL l m i*1 by omega];exact rU T _ true (by omega)
              refine⟨2*m.length - (i+1),by omega,?_⟩;refine c8 (e0:=e3b (2*(m.length:Int)).toNat (2*m.length) (j+1)) (h0:=h3b l m c1 c2 n (TY l m (i+1))) (n0:=4) ⟨i+1,j+1,by omega,by omega,rfl,rfl,rfl,rfl⟩ ?_ ?_ (by decide)
              ·unfold e3b;((repeat' refine iE rfl rfl ?_);exact iN)
              ·unfold h3b XT bI aE;((repeat'(first|refine iW rfl rfl (cV (aF lU _) cC) ?_|refine iF rfl rfl ?_|refine iC rfl rfl rfl ?_|refine iJ rfl rfl rfl rfl ?_));exact iN)
             ·exfalso;clear h1;simp [aA,aG,aK] at a7;omega
            ·exact kH a6 (by rw [cG];show 0+Int.toNat ((qL l m i:Nat):Int)*1+1≤T.length*1;omega)
           ·exfalso;clear h1;simp [aA,aG] at a5;omega
         ·exfalso;clear h1;simp [aA,aG] at a2;omega
        ·exfalso;clear h1;simp [aA,aG] at a1;omega
       ·have hil:i=2*m.length:=by simp [aA,aG] at m1;omega
        repeat' ((conv=>whnf);refine bm (fun z=>?_) (fun z=>?_))
        ·(conv=>whnf);show Value.bool (decide (2*(m.length:Int)=2*(m.length:Int)))=_;rw [decide_eq_true rfl]
        all_goals (exfalso;clear h1;simp [aA,aG,aK] at *;omega)
       all_goals (exfalso;clear h1;simp [aA,aG,aK] at *;omega)
   all_goals (exfalso;clear h1 hS hSs;simp [aA,aG,aK] at *;omega)
 ·(conv=>whnf)
end Go.Aw
end

noncomputable section
namespace Go.Proofs.YticajjhjehljpaaGreat
open Go.ChangeShapes Go.WideShapes Go.ChangeAt Go.RowKit Go.Aw Go.Joins
set_option maxRecDepth 100000 in
theorem JU (os:Os)(started:os.Started)(H:Type)(enc:TypeId × Value→H) :
  ReturnsInHanded {} Tryz.checked os 3 .any (Rows.facesEulerSpec.pre6 enc Tryz.prog Tryz.f3 Rows.facesEulerRow.domain false) (Rows.facesEulerSpec.post enc Tryz.prog Tryz.f3 false true false false):=by
 refine returnsInHanded_of_change (C:=Tryz.checked) Tryz.own started (by kernel_rfl) Tryz.func3
  (ChangeSpec.witness6 (enc:=enc) (C:=Tryz.checked) false ⟨#[],#[.agg #[.slice none 0 0,.slice none 0 0,.int .i64 0]],[]⟩ 3 (by kernel_rfl) (by kernel_rfl) (by kernel_rfl) (by kernel_rfl)) ?_
 intro W base args ds gs before hval0 hW hcnd _;have hval:∀ (j:Nat) t v,Tryz.f3.params[j]? = some t→args[j]? = some v→Value.okWide Tryz.prog W .any base t v:=hval0;have hW':=hW;obtain⟨p,q,hA0,hV,rfl,hfz,hnd⟩:=hW;have hA:DataW.TrodAll enc Tryz.prog W 0 (fun _=>true) true Tryz.f3.params.toList args.toList ds p:=hA0;rw [Tryz.params3] at hA hval;obtain⟨v0,d0,rfl,rfl,h0⟩:=trodAll_one hA;obtain⟨rfl,rfl⟩:=trodVars_none hV;obtain⟨cs,rfl,hsz⟩:=okWide_struct Tryz.underlying25 (hval 0 25 v0 rfl rfl);have h0':=h0;obtain⟨fuel,hf0⟩:=h0';obtain⟨xs,fu,_,_,hlen,hxl,hf⟩:=DataW.trod_struct Tryz.underlying25 hf0;rw [Tryz.aCk] at hlen;have hcs:∃ a b c,cs.toList=[a,b,c]:=aI8 hlen;obtain⟨a,b,c,hcs⟩:=hcs;have ecs:cs=#[a,b,c]:=Array.ext' hcs;subst ecs;obtain⟨x0,x1,x2,rfl⟩:=aI8 hxl;obtain⟨l,c1,loc1,a1,a2,a3⟩:=GZ a8 (by decide) Tryz.underlying22 Tryz.UD aHS (show DataW.trod enc Tryz.prog W 0 (fun _=>true) true fu 22 [a]=some x0 by simpa [Tryz.aDw,Value.cells] using hf 0 _ rfl);obtain⟨m,c2,loc2,b1,b2,b3⟩:=GZ aX (by decide) Tryz.underlying23 Tryz.S8 aIs (show DataW.trod enc Tryz.prog W 0 (fun _=>true) true fu 23 [b]=some x1 by simpa [Tryz.aDd,Value.cells] using hf 1 _ rfl);obtain⟨n,e1⟩:=lC (show DataW.trod enc Tryz.prog W 0 (fun _=>true) true fu 3 [c]=some x2 by simpa [Tryz.rO,Value.cells] using hf 2 _ rfl);subst e1;clear hA0 hval0;simp only [List.append_nil] at hW';have hlt:∀ x∈p,x.block<W.heap.size:=fun x hx=>(by simpa using hW'.lt x hx);refine (MU (r:=[]) (.cons aJk (.cons x16 (.cons aJz (.cons aKa (.cons aJN (.cons aKc (.cons aK8 .nil))))))) rfl (w3 l m n c1 c2) rfl a1 b1 a2 b2 a3 b3).mono fun e W' ⟨he,hb⟩=>?_;subst he;refine⟨_,rfl,_,_,_,[],p,[],hW',trodAll_mk1 (aAE true),?_,rfl,hb.frame _,fun h=>by cases h⟩;exact trodAll_mk1 (Below.trod Tryz.laidOut (by kernel_rfl) (of_decide_eq_true (by kernel_rfl)) h0 hb hlt)
set_option maxRecDepth 100000 in
theorem jf:joinedFacts Tryz.prog 3 Tryz.f3 Rows.facesEulerSpec Rows.facesEulerRow=true:=by
 unfold joinedFacts;exact (dY (dY (dY (dY (dY (dY (dY (dY (dY (dY (dY (dY (dY (dY (dY (dY (dY (dY (dY (dY (dY (dY (dY (dY (dY (dY (dY (dY (dY (dY (dY jf0 jf1) jf2) jf3) jf4) jf5) jf6) jf7) jf8) jf9) aJI) aJP) aJh) aK1) aJJ) aKu) aJr) aJL) aJs) aKt) aKe) aJC) aJu) aKi) aKf) aJE) aKg) aJy) (by kernel_rfl)) aJx) aJF) aJG)
theorem euler_holds:Rows.FacesEulerSaid :=
 OpenClaim.holds_of_wide 3 Tryz.f3 rfl rfl rfl rfl rfl rfl rfl ⟨rfl,rfl,rfl,rfl,rfl⟩ rfl rfl rfl rfl rfl (by kernel_rfl) Tryz.func3 jf
  (of_decide_eq_true (by kernel_rfl)) (by unfold Func.isWrapper;first|(rw [if_pos (by decide +kernel)];kernel_rfl)|(rw [if_neg (by decide +kernel)];exact⟨rfl,rfl⟩))
  (fun os started H enc _=>JU os started H enc)
#print axioms euler_holds
end Go.Proofs.YticajjhjehljpaaGreat
end
