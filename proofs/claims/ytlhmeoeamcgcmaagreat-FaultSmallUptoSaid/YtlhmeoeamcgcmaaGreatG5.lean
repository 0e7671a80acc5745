/-
  Contracts: a truth that is tried.
-/
import Derived.Test.YtlhmeoeamcgcmaaGreatG4
import Derived.Test.YtlhmeoeamcgcmaaGreatK1
import Derived.Test.YtlhmeoeamcgcmaaGreatE35
import Derived.Test.YtlhmeoeamcgcmaaGreatW6
set_option linter.unusedSimpArgs false
set_option linter.unusedVariables false
namespace Go.AM
open Go.Proofs.Tryz
attribute [-go_sem] put_ne put_same
attribute [local go_sem ↓] put_if
def SpE (h:Heap) (id:Nat) (v:AVal) (silk:List Int) (k:Nat) (H:Heap):Prop:=Ext (h.set id (spB v silk k)) H
section
variable {h H H':Heap} {id k0 k k':Nat} {v:AVal} {silk:List Int}
end
end Go.AM
namespace Go.AM
open Go.Proofs.Tryz
attribute [-go_sem] put_ne put_same
attribute [local go_sem ↓] put_if
def prtOk (R:Int) (p:Prt):Prop:=0<p.rib.length∧(1≤p.each∧p.each≤4)∧(0≤p.ph∧p.ph≤p.each-1)∧(∀ r ∈ p.rib,0≤r∧r≤R-1)∧riseB p.rib=true
def sgtOk (R T:Int) (s:Sgt):Prop:=(0≤s.rib∧s.rib≤R-1)∧(0≤s.lo∧s.lo≤T-1)∧(0≤s.hi∧s.hi≤T-1)∧s.lo≤s.hi
theorem run_sgt' {base:Nat} {h:Heap} {r lo hi:Int} {b:Bool}:callL prog raw base (.fn 54 [] []) [.int .i64 r,.int .i64 lo,.int .i64 hi,.bool b] h=some (.agg [.int .i64 r,.int .i64 lo,.int .i64 hi,.bool b],h):=run_sgt
end Go.AM
namespace Go.AM
open Go.Proofs.Tryz
attribute [-go_sem] put_ne put_same
attribute [local go_sem ↓] put_if
structure MadeAt (H:Heap) (L:Lom) (t:List Brk) (pv sv tv:AVal):Prop where
 hP:Parts H pv L.ps
 hS:Rows encS H sv L.ss
 hT:Rows encB H tv t
 oT:Own encB 75 0 H tv t
 hc:chkM L=0
 ok:LomOk L
 xp:XpA L t
end Go.AM
