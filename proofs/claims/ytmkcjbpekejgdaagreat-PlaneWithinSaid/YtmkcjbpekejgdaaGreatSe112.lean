/-
  Inside of both, orders of segments. No condition.
-/
import Derived.Test.YtmkcjbpekejgdaaGreatSe114
set_option linter.unusedSimpArgs false
set_option linter.unusedVariables false
noncomputable section
namespace Go.Aw
def insS (p : Int × Int) (s : Sg) : Bool := !(eqP p s.1) && (!(eqP p s.2) && onS p s)
def insR (p : Int × Int) (s : Sg) : Bool := !(eqP p s.1) && (!(eqP p s.2) && onR p s)
def XinS : Nat × XF := (86, gX (s2 cP cS fun p s => (wide p && wideS s, .bool (insS p s))))
theorem xinS : XOK Go.Proofs.Tryz.prog XinS.1 XinS.2 := x2 cP cS (xl := [X65]) (.cons x65 .nil) (fun _ _ => rfl) fun p s hp => by
  obtain ⟨px, py⟩ := p
  obtain ⟨⟨ax, ay⟩, ⟨bx, b_y⟩⟩ := s
  unfold Does1
  repeat' ((conv => whnf); refine bm (fun g => ?_) (fun g => ?_))
  all_goals (conv => whnf)
  all_goals (simp only [cA_notB, cA_andB, cA_eq, cA_eqB] at *)
  all_goals first
    | (exfalso
       have hg : (wide (px, py) && wideS ((ax, ay), (bx, b_y))) = false := by assumption
       rw [hp] at hg
       cases hg)
    | (show Value.bool _ = Value.bool _
       congr 1
       unfold insS eqP
       clear hp
       generalize onS (px, py) ((ax, ay), (bx, b_y)) = o at *
       generalize decide (px = ax) = a1 at *
       generalize decide (py = ay) = a2 at *
       generalize decide (px = bx) = a3 at *
       generalize decide (py = b_y) = a4 at *
       revert a1 a2 a3 a4 o
       decide)
def XinR : Nat × XF := (100, gX (s2 cP cS fun p s => (wide p && wideS s, .bool (insR p s))))
theorem xinR : XOK Go.Proofs.Tryz.prog XinR.1 XinR.2 := x2 cP cS (xl := [X67]) (.cons x67 .nil) (fun _ _ => rfl) fun p s hp => by
  obtain ⟨px, py⟩ := p
  obtain ⟨⟨ax, ay⟩, ⟨bx, b_y⟩⟩ := s
  unfold Does1
  repeat' ((conv => whnf); refine bm (fun g => ?_) (fun g => ?_))
  all_goals (conv => whnf)
  all_goals (simp only [cA_notB, cA_andB, cA_eq, cA_eqB] at *)
  all_goals first
    | (exfalso
       have hg : (wide (px, py) && wideS ((ax, ay), (bx, b_y))) = false := by assumption
       rw [hp] at hg
       cases hg)
    | (show Value.bool _ = Value.bool _
       congr 1
       unfold insR eqP
       clear hp
       generalize onR (px, py) ((ax, ay), (bx, b_y)) = o at *
       generalize decide (px = ax) = a1 at *
       generalize decide (py = ay) = a2 at *
       generalize decide (px = bx) = a3 at *
       generalize decide (py = b_y) = a4 at *
       revert a1 a2 a3 a4 o
       decide)
def ordG (s t : Sg) : Int := orI (ordS s.1 t.1) (ordS s.2 t.2)
def Xcmg : Nat × XF := (96, gX (s2 cS cS fun s t => (true, iv (ordG s t))))
theorem xcmg : XOK Go.Proofs.Tryz.prog Xcmg.1 Xcmg.2 := x2 cS cS (xl := [X106, X114]) (.cons x106 (.cons x114 .nil)) (fun _ _ => rfl) fun s t _ => by
  obtain ⟨⟨ax, ay⟩, ⟨bx, b_y⟩⟩ := s
  obtain ⟨⟨cx, cy⟩, ⟨dx, dy⟩⟩ := t
  unfold Does1
  conv => whnf
  refine ⟨[ordS (ax, ay) (cx, cy), ordS (bx, b_y) (dx, dy)], ⟨rfl, _, _, _, _, rfl, rfl⟩, ?_⟩
  conv => whnf
  rfl
def Xlsg : Nat × XF := (146, gX (s2 cS cS fun s t => (true, .bool (lessG s t))))
theorem xlsg : XOK Go.Proofs.Tryz.prog Xlsg.1 Xlsg.2 := x2 cS cS (xl := [X95]) (.cons x95 .nil) (fun _ _ => rfl) fun s t _ => by
  obtain ⟨⟨ax, ay⟩, ⟨bx, b_y⟩⟩ := s
  obtain ⟨⟨cx, cy⟩, ⟨dx, dy⟩⟩ := t
  unfold Does1
  repeat' ((conv => whnf); refine bm (fun g => ?_) (fun g => ?_))
  all_goals (conv => whnf)
  all_goals (simp only [cA_notB, cA_andB, cA_eq, cA_eqB] at *)
  all_goals (show Value.bool _ = Value.bool _
             congr 1
             unfold lessG eqP
             generalize lessB (ax, ay) (cx, cy) = o1 at *
             generalize lessB (bx, b_y) (dx, dy) = o2 at *
             generalize decide (ax = cx) = a1 at *
             generalize decide (ay = cy) = a2 at *
             revert a1 a2 o1 o2
             decide)
end Go.Aw
