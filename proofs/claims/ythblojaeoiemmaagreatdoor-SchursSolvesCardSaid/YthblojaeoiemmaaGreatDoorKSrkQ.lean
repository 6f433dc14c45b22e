/- Proved here: parts of the proof: KSrk. Conditions: those that each theorem states. -/
import Derived.Test.YthblojaeoiemmaaGreatDoorKSqwQ
section
namespace Gus
open Go Go.RowKit Go.Proofs
def DenE (w:World) (s:Value) (xs:List (List Int)) (E:Int):Prop:=∀ W gv,Below w.heap.size w W→GsAt W gv xs→Calls Tryz.prog 48 #[s,gv] W fun e w'=>(∃ (r c:Int) (a:Option Addr) (l k:Nat),e=.returned (.tuple #[.agg #[.int .i64 r,.int .i64 c,.slice a l k],.int .i64 E]))∧Below W.heap.size W w'
theorem DenE.call {w w':World} {s:Value} {xs:List (List Int)} {E:Int} (h:DenE w s xs E) (hb:Below w.heap.size w w'):DenE w' s xs E:=fun W gv hW hg=>h W gv (hb.trans (hW.mono hb.size)) hg
end Gus
end
