/- Access lists: the program's copies. -/
import Derived.Test.YtakdjabamjgcfaaAclD
namespace Go.Proofs.Ytakdjabamjgcfaa
set_option maxRecDepth 4000
open Go Go.Par PH

attribute [local irreducible] W WL Does Exec Body Then inBlk RG WR row obj pblk
/-- Other bits. -/
def Acl.chmod (a : Acl) (b : Int) : Acl := if a.hm then { a with o := b / 64 % 8, m := b / 8 % 8, t := b % 8 } else { a with o := b / 64 % 8, g := b / 8 % 8, t := b % 8 }
theorem chmod_t (o g t : Int) (us gs : List (Int × Int)) (m b : Int) : Acl.chmod ⟨o, g, t, us, gs, true, m⟩ b = ⟨b / 64 % 8, g, b % 8, us, gs, true, b / 8 % 8⟩ := rfl
theorem chmod_f (o g t : Int) (us gs : List (Int × Int)) (m b : Int) : Acl.chmod ⟨o, g, t, us, gs, false, m⟩ b = ⟨b / 64 % 8, b / 8 % 8, b % 8, us, gs, false, m⟩ := rfl
theorem u8w3 {b : Int} (_ : 0 ≤ b) (k : Int) (h : 0 ≤ b / k) : bits .and .u8 (IntKind.u8.wrap (b / k)) 7 = b / k % 8 := u8w_and7 h
end Go.Proofs.Ytakdjabamjgcfaa
