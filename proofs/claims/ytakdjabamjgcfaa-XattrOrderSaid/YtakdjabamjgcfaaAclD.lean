/- Access lists: copies, and lists with other bits. -/
import Derived.Test.YtakdjabamjgcfaaAclC
namespace Go.Proofs.Ytakdjabamjgcfaa
set_option maxRecDepth 4000
open Go Go.Par PH

attribute [local irreducible] W WL Does Exec Body Then inBlk RG WR row obj pblk
theorem elemN : ElemT Try.prog 54 79 2 4 := ElemT.mk' rfl rfl
theorem flatN (l : List (Int × Int)) : ∀ x ∈ l, (encN x).all flat = true := fun _ _ => rfl
theorem lenN (l : List (Int × Int)) : ∀ x ∈ l, (encN x).length = 2 := fun _ _ => rfl
/-- What copies have: lists of their own. -/
def owns (r : Value) (R : List SL) (a : Acl) : Prop := ∃ a1 c1 a2 c2, r = aclV a (.slice a1 a.us.length c1) (.slice a2 a.gs.length c2) ∧ R = [rowL encN (.slice a1 a.us.length c1) 79 2 a.us, rowL encN (.slice a2 a.gs.length c2) 79 2 a.gs]
end Go.Proofs.Ytakdjabamjgcfaa
