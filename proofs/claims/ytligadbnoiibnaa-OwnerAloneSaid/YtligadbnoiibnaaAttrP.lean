/- Attributes: values, their slices told. -/
import Derived.Test.YtligadbnoiibnaaAttrD
namespace Go.Proofs.Ytligadbnoiibnaa
set_option maxRecDepth 4000
open Go Go.Par PH
/-- A value of attributes, its slices told. -/
def attrS (a : Attr) (a1 a2 a3 a4 a5 : Option Addr) (c1 c2 c3 c4 c5 : Nat) : Value :=
  attrV a (.slice a1 a.acc.us.length c1) (.slice a2 a.acc.gs.length c2) (.slice a3 a.df.us.length c3) (.slice a4 a.df.gs.length c4) (.slice a5 a.xs.length c5)
theorem AttrV.shape {h : PH} {v : Value} {a : Attr} (hv : AttrV h v a) : ∃ a1 a2 a3 a4 a5 c1 c2 c3 c4 c5, v = attrS a a1 a2 a3 a4 a5 c1 c2 c3 c4 c5 := by
  obtain ⟨u, g, u2, g2, x, rfl, h1, h2, h3, h4, h5⟩ := hv
  obtain ⟨_, _, rfl⟩ := h1.shape
  obtain ⟨_, _, rfl⟩ := h2.shape
  obtain ⟨_, _, rfl⟩ := h3.shape
  obtain ⟨_, _, rfl⟩ := h4.shape
  obtain ⟨_, _, rfl⟩ := h5.shape
  exact ⟨_, _, _, _, _, _, _, _, _, _, rfl⟩
end Go.Proofs.Ytligadbnoiibnaa
