/-
  Contracts: the spool of numbers. SpAt
-/
import Derived.Test.YtlhmeoeamcgcmaaGreatKJ
set_option linter.unusedSimpArgs false
set_option linter.unusedVariables false
namespace Go.AM
open Go.Proofs.Tryz
def spMid (silk:List Int) (k st:Nat):Nat:=if 0<silk.length then (st+(silk.getD (k % silk.length) 0).toNat * 977) % 18446744073709551616 else st
def wd (silk:List Int):Nat→Nat
 | 0=>silk.length
 | k+1=>if silk.length<k+1 then (spMid silk k (wd silk k) * 1103515245+12345) % 18446744073709551616 else spMid silk k (wd silk k)
def tv (silk:List Int) (k:Nat):Nat:=(wd silk (k+1) / 8 ^^^ wd silk (k+1) / 524288) % 65536
def up (silk:List Int) (k:Nat) (n:Int):Int:=(tv silk k:Int) % max 1 (n+1)
def spB (v:AVal) (silk:List Int) (k:Nat):ABlk:=⟨.cells [v,.int .i64 (k:Int),.int .u64 (wd silk k:Int)] 174 false false,0⟩
def SpAt (H:Heap) (id:Nat) (v:AVal) (silk:List Int) (k:Nat):Prop:=H[id]?=some (spB v silk k)∧Bytes H v silk∧∀ r n c,v=.slice (some r) n c→r.id ≠ id
theorem nck {r:ARef}:nilCheckA (.ptr (some r))=some (.ptr (some r)):=rfl
attribute [go_sem] nck
end Go.AM
