/- Access lists: bits, copies, lists with other bits. -/
import Derived.Test.YtakdjabamjgcfaaAclB
namespace Go.Proofs.Ytakdjabamjgcfaa
set_option maxRecDepth 4000
open Go Go.Par PH


attribute [local irreducible] W WL Does Exec Body Then inBlk RG WR row obj pblk
def cellsOf (a : Acl) (u g : Value) : List Value := [.int .u8 a.o, .int .u8 a.g, .int .u8 a.t, u, g, .bool a.hm, .int .u8 a.m]
/-- The three perms of which the bits are. -/
def seenV (b : Nat) (hm : Bool) : Value := .agg #[.pointer (some ⟨b, 2, none⟩), .pointer (some ⟨b, if hm then 6 else 1, none⟩), .pointer (some ⟨b, 0, none⟩)]
theorem or3 : ∀ A B C : Fin 8, bits .or .u16 (bits .or .u16 (bits .or .u16 0 ((A.val : Nat) : Int)) (((B.val : Nat) : Int) * 8)) (((C.val : Nat) : Int) * 64) = ((C.val : Nat) : Int) * 64 + ((B.val : Nat) : Int) * 8 + ((A.val : Nat) : Int) := by decide +kernel
theorem or3' {a b c : Int} (ha : 0 ≤ a) (hb : 0 ≤ b) (hc : 0 ≤ c) : bits .or .u16 (bits .or .u16 (bits .or .u16 0 (a % 8)) (b % 8 * 8)) (c % 8 * 64) = c % 8 * 64 + b % 8 * 8 + a % 8 := by
  have key := or3 ⟨(a % 8).toNat, by omega⟩ ⟨(b % 8).toNat, by omega⟩ ⟨(c % 8).toNat, by omega⟩
  simp only at key
  rw [show (((a % 8).toNat : Nat) : Int) = a % 8 from by omega, show (((b % 8).toNat : Nat) : Int) = b % 8 from by omega, show (((c % 8).toNat : Nat) : Int) = c % 8 from by omega] at key
  exact key
end Go.Proofs.Ytakdjabamjgcfaa
