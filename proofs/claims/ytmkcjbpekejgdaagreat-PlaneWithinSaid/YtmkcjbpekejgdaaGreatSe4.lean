/-
  The calls of alive, each reckoned by the kernel. No condition.
-/
import Derived.Test.YtmkcjbpekejgdaaGreatSeA
noncomputable section
namespace Go.Aw
def clo_normal : Clo := ⟨22, some (4, 2, [iv 4, iv 4, iv 4, iv 2, iv 4, iv 0, iv 0, iv 0]), [], .tuple #[.slice (some ⟨0, 0, none⟩) 3 3, iv 0], [(0, .cells true false 2 [iv 0, iv 0, iv 4, iv 0, iv 4, iv 4])], 1, [(0, 83)]⟩
theorem clo_normal_ok : CloOK cfg0 40 clo_normal := ⟨by decide +kernel, by decide +kernel⟩
def clo_triangles : Clo := ⟨25, some (4, 2, [iv 0, iv 0, iv 4, iv 0, iv 4, iv 4, iv 0, iv 4]), [], .tuple #[.slice (some ⟨0, 0, none⟩) 2 2, iv 0], [(0, .cells true false 6 [iv 0, iv 4, iv 0, iv 0, iv 4, iv 0, iv 4, iv 0, iv 4, iv 4, iv 0, iv 4])], 1, [(0, 102)]⟩
theorem clo_triangles_ok : CloOK cfg0 40 clo_triangles := ⟨by decide +kernel, by decide +kernel⟩
def clo_hull : Clo := ⟨33, some (4, 2, [iv 0, iv 0, iv 2, iv 0, iv 4, iv 0, iv 2, iv 1]), [], .tuple #[.slice (some ⟨0, 0, none⟩) 3 3, iv 0], [(0, .cells true false 2 [iv 0, iv 0, iv 4, iv 0, iv 2, iv 1])], 1, [(0, 35)]⟩
theorem clo_hull_ok : CloOK cfg0 40 clo_hull := ⟨by decide +kernel, by decide +kernel⟩
def clo_split : Clo := ⟨39, some (2, 4, [iv 0, iv 0, iv 4, iv 0, iv 2, iv 0, iv 2, iv 3]), [], .tuple #[.slice (some ⟨0, 0, none⟩) 3 3, iv 0], [(0, .cells true false 4 [iv 0, iv 0, iv 2, iv 0, iv 2, iv 0, iv 2, iv 3, iv 2, iv 0, iv 4, iv 0])], 1, [(0, 116)]⟩
theorem clo_split_ok : CloOK cfg0 40 clo_split := ⟨by decide +kernel, by decide +kernel⟩
def clo_sweep : Clo := ⟨46, some (2, 4, [iv 0, iv 0, iv 4, iv 0, iv 1, iv 2, iv 3, iv 1]), [], .tuple #[.slice (some ⟨0, 0, none⟩) 3 3, iv 0], [(0, .cells false false 3 [iv 0, iv 1, .slice (some ⟨1, 0, none⟩) 1 1, iv 1, iv 3, .slice (some ⟨2, 0, none⟩) 2 2, iv 3, iv 4, .slice (some ⟨3, 0, none⟩) 1 1]), (1, .cells false false 1 [iv 0]), (2, .cells false false 1 [iv 0, iv 1]), (3, .cells false false 1 [iv 0])], 4, [(0, 105), (1, 31), (2, 69), (3, 90)]⟩
theorem clo_sweep_ok : CloOK cfg0 40 clo_sweep := ⟨by decide +kernel, by decide +kernel⟩
def clo_cross : Clo := ⟨53, none, [sg 0 0 3 1, sg 0 1 1 0], .tuple #[.agg #[iv 3, iv 4], .agg #[iv 1, iv 4], .bool true], [], 0, []⟩
theorem clo_cross_ok : CloOK cfg0 40 clo_cross := ⟨by decide +kernel, by decide +kernel⟩
def clo_where1 : Clo := ⟨29, some (4, 2, [iv 0, iv 0, iv 4, iv 0, iv 4, iv 4, iv 0, iv 4]), [pt 4 1], .int .u8 1, [], 0, []⟩
theorem clo_where1_ok : CloOK cfg0 40 clo_where1 := ⟨by decide +kernel, by decide +kernel⟩
def clo_where2 : Clo := ⟨29, some (4, 2, [iv 0, iv 0, iv 4, iv 0, iv 4, iv 4, iv 0, iv 4]), [pt 2 2], .int .u8 2, [], 0, []⟩
theorem clo_where2_ok : CloOK cfg0 40 clo_where2 := ⟨by decide +kernel, by decide +kernel⟩
def clos : List Clo := [clo_normal, clo_triangles, clo_hull, clo_split, clo_sweep, clo_cross, clo_where1, clo_where2]
theorem clos_ok : ∀ E ∈ clos, CloOK cfg0 40 E := by
  intro E hE
  simp only [clos, List.mem_cons, List.not_mem_nil, or_false] at hE
  rcases hE with rfl | rfl | rfl | rfl | rfl | rfl | rfl | rfl
  · exact clo_normal_ok
  · exact clo_triangles_ok
  · exact clo_hull_ok
  · exact clo_split_ok
  · exact clo_sweep_ok
  · exact clo_cross_ok
  · exact clo_where1_ok
  · exact clo_where2_ok

def cfg1 : Cfg := { A := fastA, T := tyT, FT := look ftL, PL := plF, PR := fun _ => false, X := cloX clos, M := 1000 }
theorem cfg1_ok : CfgOK Go.Proofs.Tryz.prog cfg1 := cfg_ok _ (cloXOK cfg0_ok rfl clos_ok) _ _
theorem alive_B : wcall cfg1 (cloXB clos) 40 false 15 [] [] 0 (fun v _ _ => sameT v (.bool true)) = true := by decide +kernel
end Go.Aw
