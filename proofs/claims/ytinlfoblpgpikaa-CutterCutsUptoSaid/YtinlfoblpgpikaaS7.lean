/- cutter: the same edits. -/
import Derived.Test.YtinlfoblpgpikaaSm
import Derived.Test.YtinlfoblpgpikaaWc
import Derived.Test.YtinlfoblpgpikaaKp
import Derived.Test.YtinlfoblpgpikaaU1
namespace Go.Proofs.Ytinlfoblpgpikaa
open Go.RowKit Go.Shelf Go.Proofs.YtinlfoblpgpikaaW.PrintWords Go.Proofs.YtinlfoblpgpikaaW.PrintLast Go.Proofs.YtinlfoblpgpikaaW.PrintMore Go.Proofs.Ytinlfoblpgpikaa.Pr
set_option linter.unusedVariables false
set_option linter.unusedSimpArgs false
/-- The document's edit, read. -/
structure EdR (W : World) (A0 : Option Addr) (c0 nL : Nat) (L : List S81) (A1 : Option Addr) (c1 nd : Nat) (d : List Int) (A2 : Option Addr) (c2 nx : Nat) (x : List Int) : Prop where
  s : Kd.C k81 W A0 nL L
  di : (Kd.int .u8).C W A1 nd d
  ex : (Kd.int .u8).C W A2 nx x
  hs : nL ≤ c0
theorem EdR.below {W W' : World} {A0 : Option Addr} {c0 nL : Nat} {L : List S81} {A1 : Option Addr} {c1 nd : Nat} {d : List Int} {A2 : Option Addr} {c2 nx : Nat} {x : List Int} (h : EdR W A0 c0 nL L A1 c1 nd d A2 c2 nx x) (hb : Below W.heap.size W W') : EdR W' A0 c0 nL L A1 c1 nd d A2 c2 nx x :=
  ⟨Kd.C_below h.s hb, Kd.C_below h.di hb, Kd.C_below h.ex hb, h.hs⟩
set_option maxRecDepth 100000 in
set_option maxHeartbeats 4000000 in
theorem same17_c {A0 : Option Addr} {c0 nL : Nat} {L : List S81} {A1 : Option Addr} {c1 nd : Nat} {d : List Int} {A2 : Option Addr} {c2 nx : Nat} {x : List Int} {B0 : Option Addr} {e0 : Nat} {B1 : Option Addr} {e1 : Nat} {B2 : Option Addr} {e2 : Nat} {w : World}
    (h : EdR w A0 c0 nL L A1 c1 nd d A2 c2 nx x) (g : EdR w B0 e0 nL L B1 e1 nd d B2 e2 nx x) (hl : nL ≤ 9223372036854775806) :
    Calls Try.prog 16 #[.agg #[.slice A0 nL c0, .slice A1 nd c1, .slice A2 nx c2], .agg #[.slice B0 nL e0, .slice B1 nd e1, .slice B2 nx e2]] w fun e w' => e = .returned (.bool true) ∧ Below w.heap.size w w' := by
  have hb0 := ((Below.refl w.heap.size w).alloc (Nat.le_refl _) (.cells #[.slice A0 nL c0, .slice A1 nd c1, .slice A2 nx c2] 26)).alloc (by simp) (.cells #[.slice B0 nL e0, .slice B1 nd e1, .slice B2 nx e2] 26)
  have hY := blk_alloc (blk_new w (.cells #[.slice A0 nL c0, .slice A1 nd c1, .slice A2 nx c2] 26)) (.cells #[.slice B0 nL e0, .slice B1 nd e1, .slice B2 nx e2] 26)
  have hZ : ((w.alloc (.cells #[.slice A0 nL c0, .slice A1 nd c1, .slice A2 nx c2] 26)).alloc (.cells #[.slice B0 nL e0, .slice B1 nd e1, .slice B2 nx e2] 26)).heap[w.heap.size + 1]? = some (.cells #[.slice B0 nL e0, .slice B1 nd e1, .slice B2 nx e2] 26) := by
    have := blk_new (w.alloc (.cells #[.slice A0 nL c0, .slice A1 nd c1, .slice A2 nx c2] 26)) (.cells #[.slice B0 nL e0, .slice B1 nd e1, .slice B2 nx e2] 26)
    simpa using this
  have HY := Hd.mk hY
  have HZ := Hd.mk hZ
  have HH := Hd.mk (h.below hb0)
  have HG := Hd.mk (g.below hb0)
  have HB0 := Hd.mk hb0
  clear hY hZ hb0 h g
  go_enter Try.func16, Try.ntmps16
  go_wp2_with fail
  refine (sameSteps_c HH.out.s HH.out.hs HG.out.s HG.out.hs hl).mono ?_
  rintro e w1 ⟨rfl, b1⟩
  have HB1 := Hd.mk (below_step HB0.out b1)
  have hy := blk_below HY.out b1
  have hz := blk_below HZ.out b1
  have y1 := blk_cell hy 1
  have y2 := blk_cell hy 2
  have z1 := blk_cell hz 1
  have z2 := blk_cell hz 2
  simp at y1 y2 z1 z2
  have v1 := Kd.C_string (P := Try.prog) (A := A1) (c := c1) Try.underlying24 Try.underlying5 Try.underlying9 (HH.out.below b1).di
  have v2 := Kd.C_string (P := Try.prog) (A := A2) (c := c2) Try.underlying24 Try.underlying5 Try.underlying9 (HH.out.below b1).ex
  have v3 := Kd.C_string (P := Try.prog) (A := B1) (c := e1) Try.underlying24 Try.underlying5 Try.underlying9 (HG.out.below b1).di
  have v4 := Kd.C_string (P := Try.prog) (A := B2) (c := e2) Try.underlying24 Try.underlying5 Try.underlying9 (HG.out.below b1).ex
  clear b1 hy hz HY HZ HH HG
  go_wp2
  go_ret
  exact ⟨by simp, HB1.out⟩
end Go.Proofs.Ytinlfoblpgpikaa
