/-
  Parts of the proof, put together. No condition.
-/
import Derived.Test.YtjahkcbdecgbhaaGreatQAv
set_option linter.unusedSimpArgs false
set_option linter.unusedVariables false
noncomputable section
namespace Go.Aw
set_option maxRecDepth 100000
theorem put_bool (l:List Bool):∀ (i:Nat) (v:Bool),i<l.length→putN (flat elB.fl l) (i*1) [.bool v]=flat elB.fl (l.set i v):=by
 induction l with
 |nil=>intro i v h;cases h
 |cons a r ih =>
  intro i v h
  cases i with
  |zero=>rfl
  |succ i =>
   have:=ih i v (by simpa using h)
   simp only [List.set_cons_succ,flat,← this]
   have e:(i+1)*1=i*1+1:=by omega
   rw [e]
   unfold putN
   show List.take (i*1+1) (.bool a::flat elB.fl r)++_++List.drop (i*1+1+1) (.bool a::flat elB.fl r)=_
   rfl
def iniB (i:Nat):List Bool:=(List.range i).map fun (t:Nat)=>decide ((t:Int)=0)
theorem iniB_len (i:Nat):(iniB i).length=i:=by simp [iniB]
theorem iniB_s (i:Nat):iniB (i+1)=iniB i++[decide ((i:Int)=0)]:=by
 unfold iniB
 rw [List.range_succ,List.map_append]
 rfl
def relE (s:List Bool)(e:Ed):List Bool:=if (atB s e.a.toNat || atB s e.b.toNat)=true then (s.set e.a.toNat true).set e.b.toNat true else s
def relN (m:List Ed)(s:List Bool):Nat→List Bool
 |0=>s
 |i+1=>relE (relN m s i) (atE m i)
def conN (l:List Pt)(m:List Ed):Nat→List Bool
 |0=>iniB l.length
 |i+1=>relN m (conN l m i) m.length
def conI (l:List Pt)(m:List Ed):Bool:=(conN l m l.length).all id
theorem relE_len (s:List Bool)(e:Ed):(relE s e).length=s.length:=by
 unfold relE
 split <;> simp
theorem relN_len (m:List Ed)(s:List Bool):∀ i,(relN m s i).length=s.length
 |0=>rfl
 |i+1=>by unfold relN;rw [relE_len];exact relN_len m s i
theorem conN_len (l:List Pt)(m:List Ed):∀ i,(conN l m i).length=l.length
 |0=>iniB_len _
 |i+1=>by unfold conN;rw [relN_len];exact conN_len l m i
theorem put2 {s:List Bool}{a b o1 o2:Nat}(h1:o1=a*1)(h2:o2=b*1)(ha:a<s.length)(hb:b<s.length):putN (putN (flat elB.fl s) o1 [.bool true]) o2 [.bool true]=flat elB.fl ((s.set a true).set b true):=by
 rw [h1,h2,put_bool _ _ _ ha,put_bool _ _ _ (by rw [List.length_set];exact hb)]
theorem ble_no {x N:Nat}{p:Prop}(h:x.ble N=false)(hx:x≤N):p:=by
 rw [Nat.ble_eq_true_of_le hx] at h
 cases h
def coS (l:List Pt)(m:List Ed)(n:Int):List Value→Option (Bool × Value)
 |[]=>some (okM l m&&decide (1≤l.length),.bool (conI l m))
 |_=>none
theorem coS_inv {l:List Pt}{m:List Ed}{n:Int}{r:List Value}{v:Value}(h:coS l m n r=some (true,v)):r=[]∧okM l m=true∧1≤l.length∧v=.bool (conI l m):=by
 unfold coS at h
 split at h
 ·injection h with h
  injection h with h1 h2
  simp only [Bool.and_eq_true,decide_eq_true_eq] at h1
  exact⟨rfl,h1.1,h1.2,h2.symm⟩
 ·cases h
def h157 (l:List Pt)(m:List Ed)(c1 c2:Nat)(n:Int):Heap:=(2,bxM l.length m.length c1 c2 n)::mapH2 elP elE l m
def h157s (l:List Pt)(m:List Ed)(c1 c2:Nat)(n:Int)(s:List Bool):Heap:=(3,.cells true false 1 (flat elB.fl s))::h157 l m c1 c2 n
def e157 (s:Value)(j:Int):List (Nat × Value):=[(1,.pointer (some ⟨2,0,none⟩)),(3,s),(4,iv j)]
def e157b (N:Nat)(j:Int):List (Nat × Value):=[(1,.pointer (some ⟨2,0,none⟩)),(3,.slice (some ⟨3,0,none⟩) N N),(5,iv j)]
def e157c (N:Nat)(j k:Int):List (Nat × Value):=(6,iv k)::e157b N j
def e157d (N:Nat)(j:Int):List (Nat × Value):=[(3,.slice (some ⟨3,0,none⟩) N N),(8,iv j)]
def Xf157:Nat × XF:=(157,mX elP elE coS)
theorem xf157:XOK Go.Proofs.Tryz.prog Xf157.1 Xf157.2:=mX_ok elP elE (body_calls (xl:=[]) .nil) fun l m n r v hs=>by
 obtain⟨rfl,hM,h1l,rfl⟩:=coS_inv hs
 clear hs
 refine⟨rfl,rfl,fun c1 c2=>?_⟩
 have hm:m.length≤1000:=by simp only [okM,Bool.and_eq_true,decide_eq_true_eq] at hM;exact hM.1.2
 have hl:l.length≤1000:=by simp only [okM,Bool.and_eq_true,decide_eq_true_eq] at hM;exact hM.2
 (conv=>whnf)
 refine⟨fun q e h nx=>∃ (i:Nat) (j:Int),j=i∧i≤l.length∧q=l.length - i ∧
  ((i=0∧e=e157 (.slice none 0 0) j∧h=h157 l m c1 c2 n∧nx=3)∨(0<i∧e=e157 (.slice (some ⟨3,0,none⟩) i i) j∧h=h157s l m c1 c2 n (iniB i)∧nx=4)),⟨l.length,?_⟩,?_⟩
 ·refine Into_id (e0:=e157 (.slice none 0 0) 0) (h0:=h157 l m c1 c2 n) (n0:=3) ⟨0,0,rfl,Nat.zero_le _,rfl,.inl ⟨rfl,rfl,rfl,rfl⟩⟩ ?_ ?_ (by decide)
  ·unfold e157;((repeat'(refine List.forall_mem_cons.2 ⟨⟨rfl,?_⟩,?_⟩;(first|exact scT_g rfl|exact⟨by decide,rfl⟩|exact⟨by decide,fun h=>(by cases h)⟩)));exact fun _ h=>(by cases h))
  ·unfold h157 bxM mapH2;((repeat'(refine List.forall_mem_cons.2 ⟨⟨Nat.le_of_ble_eq_true rfl,_,rfl,?_⟩,?_⟩;(first|exact ObjRen_g (flat_g _ _)|(refine ObjRen_2 ?_;(repeat'(refine List.forall_mem_cons.2 ⟨⟨rfl,?_⟩,?_⟩;(first|exact scS_g rfl|exact⟨by decide,rfl⟩|exact⟨by decide,fun h=>(by cases h)⟩)));exact fun _ h=>(by cases h))|(refine⟨rfl,rfl,rfl,rfl,?_⟩;(repeat'(refine List.forall_mem_cons.2 ⟨?_,?_⟩;(first|exact scS_g rfl|exact⟨by decide,rfl⟩|exact⟨by decide,fun h=>(by cases h)⟩)));exact fun _ h=>(by cases h))|exact ObjRen_j rfl rfl)));exact fun _ h=>(by cases h))
 ·rintro q e h nx ⟨i,j,hj,hi,rfl,⟨hi0,rfl,rfl,rfl⟩|⟨hip,rfl,rfl,rfl⟩⟩
  ·subst hi0
   unfold e157 h157 bxM mapH2
   ((conv=>whnf);refine bm (fun h2=>?_) (fun h2=>?_))
   ·((conv=>whnf);refine bm (fun h3=>?_) (fun h3=>?_))
    ·(conv=>whnf)
     refine⟨l.length - 1,by omega,?_⟩
     refine Into_mv (e0:=e157 (.slice (some ⟨3,0,none⟩) 1 1) (j+1)) (h0:=h157s l m c1 c2 n [decide (j=0)]) (n0:=4) 3 4 (by decide) (by decide) ⟨1,j+1,by omega,by omega,rfl,.inr ⟨Nat.one_pos,rfl,by rw [hj];rfl,rfl⟩⟩ ?_ ?_ ?_
     ·unfold e157;((repeat'(refine List.forall_mem_cons.2 ⟨⟨rfl,?_⟩,?_⟩;(first|exact scT_g rfl|exact⟨by decide,rfl⟩|exact⟨by decide,fun h=>(by cases h)⟩)));exact fun _ h=>(by cases h))
     ·unfold h157s h157 bxM mapH2;((repeat'(refine List.forall_mem_cons.2 ⟨⟨Nat.le_of_ble_eq_true rfl,_,rfl,?_⟩,?_⟩;(first|exact ObjRen_g (flat_g _ _)|(refine ObjRen_2 ?_;(repeat'(refine List.forall_mem_cons.2 ⟨⟨rfl,?_⟩,?_⟩;(first|exact scS_g rfl|exact⟨by decide,rfl⟩|exact⟨by decide,fun h=>(by cases h)⟩)));exact fun _ h=>(by cases h))|(refine⟨rfl,rfl,rfl,rfl,?_⟩;(repeat'(refine List.forall_mem_cons.2 ⟨?_,?_⟩;(first|exact scS_g rfl|exact⟨by decide,rfl⟩|exact⟨by decide,fun h=>(by cases h)⟩)));exact fun _ h=>(by cases h))|exact ObjRen_j rfl rfl)));exact fun _ h=>(by cases h))
     ·unfold h157s h157 mapH2;((repeat'(refine List.forall_mem_cons.2 ⟨?_,?_⟩;(intro _ h;revert h;simp)));exact fun _ h=>(by cases h))
    ·exfalso;simp [cfgS,std,fitsK] at h3;omega
   ·exfalso;simp [cfgS,std] at h2;omega
  ·unfold e157 h157s h157 bxM mapH2
   ((conv=>whnf);refine bm (fun h2=>?_) (fun h2=>?_))
   ·have hlt:i<l.length:=by simp [cfgS,std] at h2;omega
    have hll:(flat elB.fl (iniB i)).length=i:=by rw [flat_len,iniB_len];exact Nat.mul_one _
    ((conv=>whnf);refine bm (fun h3=>?_) (fun h3=>?_))
    ·exfalso;have:=Nat.le_of_ble_eq_true h3;omega
    ·((conv=>whnf);refine bm (fun h4=>?_) (fun h4=>?_))
     ·((conv=>whnf);refine bm (fun h5=>?_) (fun h5=>?_))
      ·(conv=>whnf)
       refine⟨l.length - (i+1),by omega,?_⟩
       refine Into_mv (e0:=e157 (.slice (some ⟨3,0,none⟩) (i+1) (i+1)) (j+1)) (h0:=h157s l m c1 c2 n (iniB i++[decide (j=0)])) (n0:=4) 3 5 (by decide) (by decide)
        ⟨i+1,j+1,by omega,by omega,rfl,.inr ⟨Nat.succ_pos _,rfl,by rw [iniB_s,hj];rfl,rfl⟩⟩ ?_ ?_ ?_
       ·unfold e157;((repeat'(refine List.forall_mem_cons.2 ⟨⟨rfl,?_⟩,?_⟩;(first|exact scT_g rfl|exact⟨by decide,rfl⟩|exact⟨by decide,fun h=>(by cases h)⟩)));exact fun _ h=>(by cases h))
       ·unfold h157s h157 bxM mapH2
        ((repeat'(refine List.forall_mem_cons.2 ⟨⟨Nat.le_of_ble_eq_true rfl,_,rfl,?_⟩,?_⟩;(first|exact (ObjRen_j (flat_g elB _) (flat_growE elB (iniB i) (decide (j=0)) (iniB_len i).symm))|exact ObjRen_g (flat_g _ _)|(refine ObjRen_2 ?_;(repeat'(refine List.forall_mem_cons.2 ⟨⟨rfl,?_⟩,?_⟩;(first|exact scS_g rfl|exact⟨by decide,rfl⟩|exact⟨by decide,fun h=>(by cases h)⟩)));exact fun _ h=>(by cases h))|(refine⟨rfl,rfl,rfl,rfl,?_⟩;(repeat'(refine List.forall_mem_cons.2 ⟨?_,?_⟩;(first|exact scS_g rfl|exact⟨by decide,rfl⟩|exact⟨by decide,fun h=>(by cases h)⟩)));exact fun _ h=>(by cases h))|exact ObjRen_j rfl rfl)));exact fun _ h=>(by cases h))
       ·unfold h157s h157 mapH2;((repeat'(refine List.forall_mem_cons.2 ⟨?_,?_⟩;(intro _ h;revert h;simp)));exact fun _ h=>(by cases h))
      ·exfalso;simp [cfgS,std,fitsK] at h5;omega
     ·exact app_no (s:=1) (by omega) (by omega) h4
   ·have hge:i=l.length:=by simp [cfgS,std] at h2;omega
    subst hge
    clear hj hi hip h2
    (conv=>whnf)
    refine⟨fun q e h nx=>∃ (i:Nat) (j:Int),j=i∧i≤l.length∧q=l.length - i∧e=e157b l.length j∧h=h157s l m c1 c2 n (conN l m i)∧nx=4,⟨l.length,?_⟩,?_⟩
    ·refine Into_id (e0:=e157b l.length 0) (h0:=h157s l m c1 c2 n (iniB l.length)) (n0:=4) ⟨0,0,rfl,Nat.zero_le _,rfl,rfl,rfl,rfl⟩ ?_ ?_ (by decide)
     ·unfold e157b;((repeat'(refine List.forall_mem_cons.2 ⟨⟨rfl,?_⟩,?_⟩;(first|exact scT_g rfl|exact⟨by decide,rfl⟩|exact⟨by decide,fun h=>(by cases h)⟩)));exact fun _ h=>(by cases h))
     ·unfold h157s h157 bxM mapH2;((repeat'(refine List.forall_mem_cons.2 ⟨⟨Nat.le_of_ble_eq_true rfl,_,rfl,?_⟩,?_⟩;(first|exact ObjRen_g (flat_g _ _)|(refine ObjRen_2 ?_;(repeat'(refine List.forall_mem_cons.2 ⟨⟨rfl,?_⟩,?_⟩;(first|exact scS_g rfl|exact⟨by decide,rfl⟩|exact⟨by decide,fun h=>(by cases h)⟩)));exact fun _ h=>(by cases h))|(refine⟨rfl,rfl,rfl,rfl,?_⟩;(repeat'(refine List.forall_mem_cons.2 ⟨?_,?_⟩;(first|exact scS_g rfl|exact⟨by decide,rfl⟩|exact⟨by decide,fun h=>(by cases h)⟩)));exact fun _ h=>(by cases h))|exact ObjRen_j rfl rfl)));exact fun _ h=>(by cases h))
    ·rintro q e h nx ⟨i,j,hj,hi,rfl,rfl,rfl,rfl⟩
     have cl:=conN_len l m i
     unfold e157b h157s h157 bxM mapH2
     ((conv=>whnf);refine bm (fun h2=>?_) (fun h2=>?_))
     ·have hlt:i<l.length:=by simp [cfgS,std] at h2;omega
      (conv=>whnf)
      refine⟨fun q e h nx=>∃ (t:Nat) (z:Int),z=t∧t≤m.length∧q=m.length - t∧e=e157c l.length j z∧h=h157s l m c1 c2 n (relN m (conN l m i) t)∧nx=4,⟨m.length,?_⟩,?_⟩
      ·refine Into_id (e0:=e157c l.length j 0) (h0:=h157s l m c1 c2 n (conN l m i)) (n0:=4) ⟨0,0,rfl,Nat.zero_le _,rfl,rfl,rfl,rfl⟩ ?_ ?_ (by decide)
       ·unfold e157c e157b;((repeat'(refine List.forall_mem_cons.2 ⟨⟨rfl,?_⟩,?_⟩;(first|exact scT_g rfl|exact⟨by decide,rfl⟩|exact⟨by decide,fun h=>(by cases h)⟩)));exact fun _ h=>(by cases h))
       ·unfold h157s h157 bxM mapH2;((repeat'(refine List.forall_mem_cons.2 ⟨⟨Nat.le_of_ble_eq_true rfl,_,rfl,?_⟩,?_⟩;(first|exact ObjRen_g (flat_g _ _)|(refine ObjRen_2 ?_;(repeat'(refine List.forall_mem_cons.2 ⟨⟨rfl,?_⟩,?_⟩;(first|exact scS_g rfl|exact⟨by decide,rfl⟩|exact⟨by decide,fun h=>(by cases h)⟩)));exact fun _ h=>(by cases h))|(refine⟨rfl,rfl,rfl,rfl,?_⟩;(repeat'(refine List.forall_mem_cons.2 ⟨?_,?_⟩;(first|exact scS_g rfl|exact⟨by decide,rfl⟩|exact⟨by decide,fun h=>(by cases h)⟩)));exact fun _ h=>(by cases h))|exact ObjRen_j rfl rfl)));exact fun _ h=>(by cases h))
      ·rintro q e h nx ⟨t,z,hz,ht,rfl,rfl,rfl,rfl⟩
       have rl:=relN_len m (conN l m i) t
       rw [cl] at rl
       have nxt:relN m (conN l m i) (t+1)=relE (relN m (conN l m i) t) (atE m t):=rfl
       generalize hs0:relN m (conN l m i) t=s at rl nxt
       unfold e157c e157b h157s h157 bxM mapH2
       ((conv=>whnf);refine bm (fun h3=>?_) (fun h3=>?_))
       ·have htl:t<m.length:=by simp [cfgS,std] at h3;omega
        have he:=okM_at hM htl
        have hsl:(flat elB.fl s).length=l.length:=by rw [flat_len,rl];exact Nat.mul_one _
        ((conv=>whnf);refine bm (fun h4=>?_) (fun h4=>?_))
        ·(conv=>whnf)
         refine boL (getE m (i:=t) htl ?_) ?_
         ·show _+Int.toNat z*5=_;omega
         generalize atE m t=ed at he nxt
         ((conv=>whnf);refine bm (fun h5=>?_) (fun h5=>?_))
         ·(conv=>whnf)
          refine boV (getB s (i:=ed.a.toNat) (by omega) ?_) ?_
          ·show _+Int.toNat ed.a*1=_;omega
          have fin:∀ s',relE s ed=s'→relN m (conN l m i) (t+1)=s':=fun s' h=>by rw [nxt,h]
          ((conv=>whnf);refine bm (fun g1=>?_) (fun g1=>?_))
          ·have g1:atB s ed.a.toNat=false:=by simpa [cfgS,std] using g1
           ((conv=>whnf);refine bm (fun g2=>?_) (fun g2=>?_))
           ·(conv=>whnf)
            refine boV (getB s (i:=ed.b.toNat) (by omega) ?_) ?_
            ·show _+Int.toNat ed.b*1=_;omega
            ((conv=>whnf);refine bm (fun g3=>?_) (fun g3=>?_))
            ·have g3:atB s ed.b.toNat=true:=g3
             have hrel:relE s ed=(s.set ed.a.toNat true).set ed.b.toNat true:=by unfold relE;rw [g1,g3];rfl
             ((conv=>whnf);refine bm (fun k1=>?_) (fun k1=>?_))
             ·((conv=>whnf);refine bm (fun k2=>?_) (fun k2=>?_))
              ·((conv=>whnf);refine bm (fun k3=>?_) (fun k3=>?_))
               ·((conv=>whnf);refine bm (fun k4=>?_) (fun k4=>?_))
                ·((conv=>whnf);refine bm (fun k5=>?_) (fun k5=>?_))
                 ·(conv=>whnf)
                  refine⟨m.length - (t+1),by omega,?_⟩
                  refine Into_id (e0:=e157c l.length j (z+1)) (h0:=h157s l m c1 c2 n ((s.set ed.a.toNat true).set ed.b.toNat true)) (n0:=4) ⟨t+1,z+1,by omega,by omega,rfl,rfl,by rw [fin _ hrel];rfl,rfl⟩ ?_ ?_ (by decide)
                  ·unfold e157c e157b;((repeat'(refine List.forall_mem_cons.2 ⟨⟨rfl,?_⟩,?_⟩;(first|exact scT_g rfl|exact⟨by decide,rfl⟩|exact⟨by decide,fun h=>(by cases h)⟩)));exact fun _ h=>(by cases h))
                  ·unfold h157s h157 bxM mapH2
                   have hput:=put2 (s:=s) (a:=ed.a.toNat) (b:=ed.b.toNat) (o1:=0+ed.a.toNat*1) (o2:=0+ed.b.toNat*1) (by omega) (by omega) (by omega) (by omega)
                   ((repeat'(refine List.forall_mem_cons.2 ⟨⟨Nat.le_of_ble_eq_true rfl,_,rfl,?_⟩,?_⟩;(first|exact (ObjRen_j (flat_g elB _) hput)|exact ObjRen_g (flat_g _ _)|(refine ObjRen_2 ?_;(repeat'(refine List.forall_mem_cons.2 ⟨⟨rfl,?_⟩,?_⟩;(first|exact scS_g rfl|exact⟨by decide,rfl⟩|exact⟨by decide,fun h=>(by cases h)⟩)));exact fun _ h=>(by cases h))|(refine⟨rfl,rfl,rfl,rfl,?_⟩;(repeat'(refine List.forall_mem_cons.2 ⟨?_,?_⟩;(first|exact scS_g rfl|exact⟨by decide,rfl⟩|exact⟨by decide,fun h=>(by cases h)⟩)));exact fun _ h=>(by cases h))|exact ObjRen_j rfl rfl)));exact fun _ h=>(by cases h))
                 ·exfalso;simp [cfgS,std,fitsK] at k5;omega
                ·have hpl:(putN (flat elB.fl s) (0+ed.a.toNat*1) [.bool true]).length=l.length:=by rw [putN_length (by rw [hsl];show 0+ed.a.toNat*1+1≤l.length;omega)];exact hsl
                 have k4:(0+ed.b.toNat*1+1).ble (putN (flat elB.fl s) (0+ed.a.toNat*1) [.bool true]).length=false:=k4
                 rw [hpl] at k4
                 exact ble_no k4 (by omega)
               ·exfalso;simp [cfgS,std] at k3;omega
              ·rw [hsl] at k2
               exact ble_no k2 (by show 0+ed.a.toNat*1+1≤l.length;omega)
             ·exfalso;simp [cfgS,std] at k1;omega
            ·have g3:atB s ed.b.toNat=false:=g3
             have hrel:relE s ed=s:=by unfold relE;rw [g1,g3];rfl
             ((conv=>whnf);refine bm (fun k5=>?_) (fun k5=>?_))
             ·(conv=>whnf)
              refine⟨m.length - (t+1),by omega,?_⟩
              refine Into_id (e0:=e157c l.length j (z+1)) (h0:=h157s l m c1 c2 n s) (n0:=4) ⟨t+1,z+1,by omega,by omega,rfl,rfl,by rw [fin _ hrel];rfl,rfl⟩ ?_ ?_ (by decide)
              ·unfold e157c e157b;((repeat'(refine List.forall_mem_cons.2 ⟨⟨rfl,?_⟩,?_⟩;(first|exact scT_g rfl|exact⟨by decide,rfl⟩|exact⟨by decide,fun h=>(by cases h)⟩)));exact fun _ h=>(by cases h))
              ·unfold h157s h157 bxM mapH2;((repeat'(refine List.forall_mem_cons.2 ⟨⟨Nat.le_of_ble_eq_true rfl,_,rfl,?_⟩,?_⟩;(first|exact ObjRen_g (flat_g _ _)|(refine ObjRen_2 ?_;(repeat'(refine List.forall_mem_cons.2 ⟨⟨rfl,?_⟩,?_⟩;(first|exact scS_g rfl|exact⟨by decide,rfl⟩|exact⟨by decide,fun h=>(by cases h)⟩)));exact fun _ h=>(by cases h))|(refine⟨rfl,rfl,rfl,rfl,?_⟩;(repeat'(refine List.forall_mem_cons.2 ⟨?_,?_⟩;(first|exact scS_g rfl|exact⟨by decide,rfl⟩|exact⟨by decide,fun h=>(by cases h)⟩)));exact fun _ h=>(by cases h))|exact ObjRen_j rfl rfl)));exact fun _ h=>(by cases h))
             ·exfalso;simp [cfgS,std,fitsK] at k5;omega
           ·exfalso;simp [cfgS,std] at g2;omega
          ·have g1:atB s ed.a.toNat=true:=by simpa [cfgS,std] using g1
           have hrel:relE s ed=(s.set ed.a.toNat true).set ed.b.toNat true:=by unfold relE;rw [g1];rfl
           ((conv=>whnf);refine bm (fun k1=>?_) (fun k1=>?_))
           ·((conv=>whnf);refine bm (fun k2=>?_) (fun k2=>?_))
            ·((conv=>whnf);refine bm (fun k3=>?_) (fun k3=>?_))
             ·((conv=>whnf);refine bm (fun k4=>?_) (fun k4=>?_))
              ·((conv=>whnf);refine bm (fun k5=>?_) (fun k5=>?_))
               ·(conv=>whnf)
                refine⟨m.length - (t+1),by omega,?_⟩
                refine Into_id (e0:=e157c l.length j (z+1)) (h0:=h157s l m c1 c2 n ((s.set ed.a.toNat true).set ed.b.toNat true)) (n0:=4) ⟨t+1,z+1,by omega,by omega,rfl,rfl,by rw [fin _ hrel];rfl,rfl⟩ ?_ ?_ (by decide)
                ·unfold e157c e157b;((repeat'(refine List.forall_mem_cons.2 ⟨⟨rfl,?_⟩,?_⟩;(first|exact scT_g rfl|exact⟨by decide,rfl⟩|exact⟨by decide,fun h=>(by cases h)⟩)));exact fun _ h=>(by cases h))
                ·unfold h157s h157 bxM mapH2
                 have hput:=put2 (s:=s) (a:=ed.a.toNat) (b:=ed.b.toNat) (o1:=0+ed.a.toNat*1) (o2:=0+ed.b.toNat*1) (by omega) (by omega) (by omega) (by omega)
                 ((repeat'(refine List.forall_mem_cons.2 ⟨⟨Nat.le_of_ble_eq_true rfl,_,rfl,?_⟩,?_⟩;(first|exact (ObjRen_j (flat_g elB _) hput)|exact ObjRen_g (flat_g _ _)|(refine ObjRen_2 ?_;(repeat'(refine List.forall_mem_cons.2 ⟨⟨rfl,?_⟩,?_⟩;(first|exact scS_g rfl|exact⟨by decide,rfl⟩|exact⟨by decide,fun h=>(by cases h)⟩)));exact fun _ h=>(by cases h))|(refine⟨rfl,rfl,rfl,rfl,?_⟩;(repeat'(refine List.forall_mem_cons.2 ⟨?_,?_⟩;(first|exact scS_g rfl|exact⟨by decide,rfl⟩|exact⟨by decide,fun h=>(by cases h)⟩)));exact fun _ h=>(by cases h))|exact ObjRen_j rfl rfl)));exact fun _ h=>(by cases h))
               ·exfalso;simp [cfgS,std,fitsK] at k5;omega
              ·have hpl:(putN (flat elB.fl s) (0+ed.a.toNat*1) [.bool true]).length=l.length:=by rw [putN_length (by rw [hsl];show 0+ed.a.toNat*1+1≤l.length;omega)];exact hsl
               have k4:(0+ed.b.toNat*1+1).ble (putN (flat elB.fl s) (0+ed.a.toNat*1) [.bool true]).length=false:=k4
               rw [hpl] at k4
               exact ble_no k4 (by omega)
             ·exfalso;simp [cfgS,std] at k3;omega
            ·rw [hsl] at k2
             exact ble_no k2 (by show 0+ed.a.toNat*1+1≤l.length;omega)
           ·exfalso;simp [cfgS,std] at k1;omega
         ·exfalso;simp [cfgS,std] at h5;omega
        ·exfalso;simp [cfgS,std] at h4;omega
       ·have hge:t=m.length:=by simp [cfgS,std] at h3;omega
        have hcn:conN l m (i+1)=s:=by
         show relN m (conN l m i) m.length=s
         rw [← hge];exact hs0
        ((conv=>whnf);refine bm (fun h4=>?_) (fun h4=>?_))
        ·(conv=>whnf)
         refine⟨l.length - (i+1),by omega,?_⟩
         refine Into_id (e0:=e157b l.length (j+1)) (h0:=h157s l m c1 c2 n s) (n0:=4) ⟨i+1,j+1,by omega,by omega,rfl,rfl,by rw [hcn];rfl,rfl⟩ ?_ ?_ (by decide)
         ·unfold e157b;((repeat'(refine List.forall_mem_cons.2 ⟨⟨rfl,?_⟩,?_⟩;(first|exact scT_g rfl|exact⟨by decide,rfl⟩|exact⟨by decide,fun h=>(by cases h)⟩)));exact fun _ h=>(by cases h))
         ·unfold h157s h157 bxM mapH2;((repeat'(refine List.forall_mem_cons.2 ⟨⟨Nat.le_of_ble_eq_true rfl,_,rfl,?_⟩,?_⟩;(first|exact ObjRen_g (flat_g _ _)|(refine ObjRen_2 ?_;(repeat'(refine List.forall_mem_cons.2 ⟨⟨rfl,?_⟩,?_⟩;(first|exact scS_g rfl|exact⟨by decide,rfl⟩|exact⟨by decide,fun h=>(by cases h)⟩)));exact fun _ h=>(by cases h))|(refine⟨rfl,rfl,rfl,rfl,?_⟩;(repeat'(refine List.forall_mem_cons.2 ⟨?_,?_⟩;(first|exact scS_g rfl|exact⟨by decide,rfl⟩|exact⟨by decide,fun h=>(by cases h)⟩)));exact fun _ h=>(by cases h))|exact ObjRen_j rfl rfl)));exact fun _ h=>(by cases h))
        ·exfalso;simp [cfgS,std,fitsK] at h4;omega
     ·have hge:i=l.length:=by simp [cfgS,std] at h2;omega
      have hcon:conI l m=(conN l m i).all id:=by rw [hge];rfl
      generalize conN l m i=s at cl hcon
      rw [hcon]
      clear hcon
      (conv=>whnf)
      refine⟨fun q e h nx=>∃ (t:Nat) (z:Int),z=t∧t≤l.length∧q=l.length - t∧s.all id=(s.drop t).all id∧e=e157d l.length z∧h=h157s l m c1 c2 n s∧nx=4,⟨l.length,?_⟩,?_⟩
      ·refine Into_id (e0:=e157d l.length 0) (h0:=h157s l m c1 c2 n s) (n0:=4) ⟨0,0,rfl,Nat.zero_le _,rfl,rfl,rfl,rfl,rfl⟩ ?_ ?_ (by decide)
       ·unfold e157d;((repeat'(refine List.forall_mem_cons.2 ⟨⟨rfl,?_⟩,?_⟩;(first|exact scT_g rfl|exact⟨by decide,rfl⟩|exact⟨by decide,fun h=>(by cases h)⟩)));exact fun _ h=>(by cases h))
       ·unfold h157s h157 bxM mapH2;((repeat'(refine List.forall_mem_cons.2 ⟨⟨Nat.le_of_ble_eq_true rfl,_,rfl,?_⟩,?_⟩;(first|exact ObjRen_g (flat_g _ _)|(refine ObjRen_2 ?_;(repeat'(refine List.forall_mem_cons.2 ⟨⟨rfl,?_⟩,?_⟩;(first|exact scS_g rfl|exact⟨by decide,rfl⟩|exact⟨by decide,fun h=>(by cases h)⟩)));exact fun _ h=>(by cases h))|(refine⟨rfl,rfl,rfl,rfl,?_⟩;(repeat'(refine List.forall_mem_cons.2 ⟨?_,?_⟩;(first|exact scS_g rfl|exact⟨by decide,rfl⟩|exact⟨by decide,fun h=>(by cases h)⟩)));exact fun _ h=>(by cases h))|exact ObjRen_j rfl rfl)));exact fun _ h=>(by cases h))
      ·rintro q e h nx ⟨t,z,hz,ht,rfl,hall,rfl,rfl,rfl⟩
       unfold e157d h157s h157 bxM mapH2
       ((conv=>whnf);refine bm (fun h3=>?_) (fun h3=>?_))
       ·have htl:t<l.length:=by simp [cfgS,std] at h3;omega
        have hd:s.drop t=atB s t::s.drop (t+1):=by rw [atB_eq (by omega)];exact List.drop_eq_getElem_cons (by omega)
        rw [hd,List.all_cons] at hall
        ((conv=>whnf);refine bm (fun h4=>?_) (fun h4=>?_))
        ·(conv=>whnf)
         refine boV (getB s (i:=t) (by omega) ?_) ?_
         ·show _+Int.toNat z*1=_;omega
         ((conv=>whnf);refine bm (fun h5=>?_) (fun h5=>?_))
         ·have h5:atB s t=false:=by simpa [cfgS,std] using h5
          (conv=>whnf)
          rw [hall,h5]
          rfl
         ·have h5:atB s t=true:=by simpa [cfgS,std] using h5
          ((conv=>whnf);refine bm (fun h6=>?_) (fun h6=>?_))
          ·(conv=>whnf)
           refine⟨l.length - (t+1),by omega,?_⟩
           refine Into_id (e0:=e157d l.length (z+1)) (h0:=h157s l m c1 c2 n s) (n0:=4) ⟨t+1,z+1,by omega,by omega,rfl,by rw [hall,h5];rfl,rfl,rfl,rfl⟩ ?_ ?_ (by decide)
           ·unfold e157d;((repeat'(refine List.forall_mem_cons.2 ⟨⟨rfl,?_⟩,?_⟩;(first|exact scT_g rfl|exact⟨by decide,rfl⟩|exact⟨by decide,fun h=>(by cases h)⟩)));exact fun _ h=>(by cases h))
           ·unfold h157s h157 bxM mapH2;((repeat'(refine List.forall_mem_cons.2 ⟨⟨Nat.le_of_ble_eq_true rfl,_,rfl,?_⟩,?_⟩;(first|exact ObjRen_g (flat_g _ _)|(refine ObjRen_2 ?_;(repeat'(refine List.forall_mem_cons.2 ⟨⟨rfl,?_⟩,?_⟩;(first|exact scS_g rfl|exact⟨by decide,rfl⟩|exact⟨by decide,fun h=>(by cases h)⟩)));exact fun _ h=>(by cases h))|(refine⟨rfl,rfl,rfl,rfl,?_⟩;(repeat'(refine List.forall_mem_cons.2 ⟨?_,?_⟩;(first|exact scS_g rfl|exact⟨by decide,rfl⟩|exact⟨by decide,fun h=>(by cases h)⟩)));exact fun _ h=>(by cases h))|exact ObjRen_j rfl rfl)));exact fun _ h=>(by cases h))
          ·exfalso;simp [cfgS,std,fitsK] at h6;omega
        ·exfalso;simp [cfgS,std] at h4;omega
       ·have hgt:t=l.length:=by simp [cfgS,std] at h3;omega
        (conv=>whnf)
        rw [hall,hgt,List.drop_eq_nil_of_le (by omega)]
        rfl
end Go.Aw
end

noncomputable section
namespace Go.Aw
set_option maxRecDepth 100000
def segI (l:List Pt)(m:List Ed)(i:Nat):Sg:=(ptI l (atE m i).a,ptI l (atE m i).b)
def sgS:MS:=sMD fun l m _ d=>(okM l m&&(decide (0≤d)&&decide (d<m.length)),sgv (segI l m d.toNat))
def Xf74:Nat × XF:=(74,mX elP elE sgS)
theorem xf74:XOK Go.Proofs.Tryz.prog Xf74.1 Xf74.2:=mX_ok elP elE (body_calls (xl:=[]) .nil) fun l m n r v hs=>by
 obtain⟨d,rfl,hd,rfl⟩:=sMD_inv hs
 clear hs
 simp only [Bool.and_eq_true,decide_eq_true_eq] at hd
 obtain⟨hM,h0,hd⟩:=hd
 have he:=okM_at hM (i:=d.toNat) (by omega)
 refine⟨rfl,rfl,fun c1 c2=>?_⟩
 ((conv=>whnf);refine bm (fun h1=>?_) (fun h1=>?_))
 ·(conv=>whnf)
  refine boV (ed_k m 0 (i:=d.toNat) (by omega) rfl (by decide) ?_) ?_
  ·show _+Int.toNat d*5+0=_;omega
  ((conv=>whnf);refine bm (fun h2=>?_) (fun h2=>?_))
  ·(conv=>whnf)
   refine boL (getPt l (i:=(atE m d.toNat).a.toNat) (by omega) ?_) ?_
   ·show _+Int.toNat (atE m d.toNat).a*2=_;omega
   ((conv=>whnf);refine bm (fun h3=>?_) (fun h3=>?_))
   ·(conv=>whnf)
    refine boV (ed_k m 1 (i:=d.toNat) (by omega) rfl (by decide) ?_) ?_
    ·show _+Int.toNat d*5+1=_;omega
    ((conv=>whnf);refine bm (fun h4=>?_) (fun h4=>?_))
    ·(conv=>whnf)
     refine boL (getPt l (i:=(atE m d.toNat).b.toNat) (by omega) ?_) ?_
     ·show _+Int.toNat (atE m d.toNat).b*2=_;omega
     (conv=>whnf)
     rfl
    ·exfalso;simp [cfgS,std] at h4;omega
   ·exfalso;simp [cfgS,std] at h3;omega
  ·exfalso;simp [cfgS,std] at h2;omega
 ·exfalso;simp [cfgS,std] at h1;omega
def Xf98:Nat × XF:=(98,mX elP elE sgS)
theorem xf98:XOK Go.Proofs.Tryz.prog Xf98.1 Xf98.2:=mX_ok elP elE (body_calls (xl:=[]) .nil) fun l m n r v hs=>by
 obtain⟨d,rfl,hd,rfl⟩:=sMD_inv hs
 clear hs
 simp only [Bool.and_eq_true,decide_eq_true_eq] at hd
 obtain⟨hM,h0,hd⟩:=hd
 have he:=okM_at hM (i:=d.toNat) (by omega)
 refine⟨rfl,rfl,fun c1 c2=>?_⟩
 ((conv=>whnf);refine bm (fun h1=>?_) (fun h1=>?_))
 ·(conv=>whnf)
  refine boV (ed_k m 0 (i:=d.toNat) (by omega) rfl (by decide) ?_) ?_
  ·show _+Int.toNat d*5+0=_;omega
  ((conv=>whnf);refine bm (fun h2=>?_) (fun h2=>?_))
  ·(conv=>whnf)
   refine boL (getPt l (i:=(atE m d.toNat).a.toNat) (by omega) ?_) ?_
   ·show _+Int.toNat (atE m d.toNat).a*2=_;omega
   ((conv=>whnf);refine bm (fun h3=>?_) (fun h3=>?_))
   ·(conv=>whnf)
    refine boV (ed_k m 1 (i:=d.toNat) (by omega) rfl (by decide) ?_) ?_
    ·show _+Int.toNat d*5+1=_;omega
    ((conv=>whnf);refine bm (fun h4=>?_) (fun h4=>?_))
    ·(conv=>whnf)
     refine boL (getPt l (i:=(atE m d.toNat).b.toNat) (by omega) ?_) ?_
     ·show _+Int.toNat (atE m d.toNat).b*2=_;omega
     (conv=>whnf)
     rfl
    ·exfalso;simp [cfgS,std] at h4;omega
   ·exfalso;simp [cfgS,std] at h3;omega
  ·exfalso;simp [cfgS,std] at h2;omega
 ·exfalso;simp [cfgS,std] at h1;omega
end Go.Aw
end

noncomputable section
namespace Go.Aw
def allN (f:Nat→Bool)(n:Nat):Bool:=(List.range n).all f
theorem allN_false {f:Nat→Bool}{n i:Nat}(hi:i<n)(h:f i=false):allN f n=false:=by
 unfold allN
 rw [List.all_eq_false]
 exact⟨i,List.mem_range.2 hi,by rw [h];exact Bool.false_ne_true⟩
theorem allN_true {f:Nat→Bool}{n:Nat}(h:∀ i,i<n→f i=true):allN f n=true:=by
 unfold allN
 rw [List.all_eq_true]
 exact fun i hi=>h i (List.mem_range.1 hi)
theorem allN_at {f:Nat→Bool}{n i:Nat}(h:allN f n=true)(hi:i<n):f i=true:=List.all_eq_true.1 h i (List.mem_range.2 hi)
def ptB (l:List Pt)(i:Nat):Bool:=rightS (at2 l i)&&(decide (i=0) || lessI (at2 l (i - 1)) (at2 l i))
def bfE (d e:Ed):Bool:=decide (d.a<e.a) || (decide (d.a=e.a)&&decide (d.b<e.b))
def edB (l:List Pt)(m:List Ed)(i:Nat):Bool :=
 decide (0≤(atE m i).a)&&decide ((atE m i).a<(atE m i).b)&&decide ((atE m i).b<l.length)&&decide (-1≤(atE m i).n)&&decide ((atE m i).n<200)&&(decide (i=0) || bfE (atE m (i - 1)) (atE m i))
def useN (m:List Ed)(s:List Bool):Nat→List Bool
 |0=>s
 |i+1=>((useN m s i).set (atE m i).a.toNat true).set (atE m i).b.toNat true
theorem useN_len (m:List Ed)(s:List Bool):∀ i,(useN m s i).length=s.length
 |0=>rfl
 |i+1=>by unfold useN;rw [List.length_set,List.length_set];exact useN_len m s i
def meB (l:List Pt)(m:List Ed)(i k:Nat):Bool:=decide (MeetV (segI l m i) (segI l m k)=0) || decide (MeetV (segI l m i) (segI l m k)=1)
def szB (l:List Pt)(m:List Ed)(n:Int):Bool:=decide (l.length≤400)&&decide (3≤m.length)&&decide (m.length≤400)&&decide (1≤n)&&decide (n≤100)
def lstB (l:List Pt)(m:List Ed)(n:Int):Bool:=szB l m n&&(allN (ptB l) l.length&&(allN (edB l m) m.length&&(useN m (List.replicate l.length false) m.length).all id))
def plnB (l:List Pt)(m:List Ed)(n:Int):Bool:=lstB l m n&&allN (fun i=>allN (fun k=>meB l m i k) i) m.length
theorem okM_of {l:List Pt}{m:List Ed}(hl:l.length≤1000)(hm:m.length≤1000)(h1:∀ i,i<l.length→ptB l i=true)(h2:∀ i,i<m.length→edB l m i=true):okM l m=true:=by
 simp only [okM,Bool.and_eq_true,decide_eq_true_eq]
 refine⟨⟨⟨List.all_eq_true.2 fun p hp=>?_,List.all_eq_true.2 fun e he=>?_⟩,hm⟩,hl⟩
 ·obtain⟨i,hi,rfl⟩:=List.getElem_of_mem hp
  have:=h1 i hi
  rw [ptB,at2_eq hi,Bool.and_eq_true] at this
  exact rightS_wide this.1
 ·obtain⟨i,hi,rfl⟩:=List.getElem_of_mem he
  have:=h2 i hi
  rw [edB,atE_eq hi] at this
  simp only [Bool.and_eq_true,decide_eq_true_eq] at this ⊢
  omega
theorem pln_sz {l:List Pt}{m:List Ed}{n:Int}(h:szB l m n=false):plnB l m n=false:=by simp [plnB,lstB,h]
theorem pln_pt {l:List Pt}{m:List Ed}{n:Int}{i:Nat}(hi:i<l.length)(h:ptB l i=false):plnB l m n=false:=by simp [plnB,lstB,allN_false hi h]
theorem pln_ed {l:List Pt}{m:List Ed}{n:Int}{i:Nat}(hi:i<m.length)(h:edB l m i=false):plnB l m n=false:=by simp [plnB,lstB,allN_false hi h]
theorem pln_us {l:List Pt}{m:List Ed}{n:Int}(h:(useN m (List.replicate l.length false) m.length).all id=false):plnB l m n=false:=by simp [plnB,lstB,h]
theorem pln_me {l:List Pt}{m:List Ed}{n:Int}{i k:Nat}(hi:i<m.length)(hk:k<i)(h:meB l m i k=false):plnB l m n=false:=by
 have:allN (fun k=>meB l m i k) i=false:=allN_false hk h
 have:allN (fun i=>allN (fun k=>meB l m i k) i) m.length=false:=allN_false hi this
 simp [plnB,this]
theorem lst_sz {l:List Pt}{m:List Ed}{n:Int}(h:szB l m n=false):lstB l m n=false:=by simp [lstB,h]
theorem lst_pt {l:List Pt}{m:List Ed}{n:Int}{i:Nat}(hi:i<l.length)(h:ptB l i=false):lstB l m n=false:=by simp [lstB,allN_false hi h]
theorem lst_ed {l:List Pt}{m:List Ed}{n:Int}{i:Nat}(hi:i<m.length)(h:edB l m i=false):lstB l m n=false:=by simp [lstB,allN_false hi h]
end Go.Aw
end
