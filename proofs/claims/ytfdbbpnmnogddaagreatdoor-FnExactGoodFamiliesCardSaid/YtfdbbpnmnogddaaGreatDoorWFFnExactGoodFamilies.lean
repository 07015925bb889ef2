/- What the law FnExactGoodFamilies is told of its arguments' data: numbers in their kinds' ranges, lengths that fit. -/
import Derived.Test.YtfdbbpnmnogddaaGreatDoorPrxg167f2l1
namespace Go.Proofs.YtfdbbpnmnogddaaGreatDoor.WFFnExactGoodFamilies
open Go.RowKit Go.Proofs.YtfdbbpnmnogddaaGreatDoor.Pr Go.Proofs.YtfdbbpnmnogddaaGreatDoorW.PrintWords Go.Proofs.YtfdbbpnmnogddaaGreatDoorW.PrintLast Go.Proofs.YtfdbbpnmnogddaaGreatDoorW.PrintMore
def I64 (x:Int):Prop:=-9223372036854775808<=x/\x<=9223372036854775807
def U8 (x:Int):Prop:=0<=x/\x<256
def wf102 (x:S102):Prop:=x.f0.size<=maxLen/\x.f1.size<=maxLen
def wf61 (x:S61):Prop:=True/\(x.f1.length<=maxLen/\∀ y∈x.f1,wf102 y)/\I64 x.f2
def wf63 (x:S63):Prop:=x.f0.size<=maxLen/\(x.f1.length<=maxLen/\∀ y∈x.f1,wf102 y)/\I64 x.f2/\True/\I64 x.f4/\wf61 x.f5
def wf24 (x:S24):Prop:=x.f0.size<=maxLen/\I64 x.f1/\x.f2.size<=maxLen/\(x.f3.length<=maxLen/\∀ y∈x.f3,wf63 y)
def Pure:Prop:=∀ (l0:List (S24)),(l0.length<=maxLen/\∀ y∈l0,wf24 y)->∃ k,laws_FnExactGoodFamilies.f k l0=some true
end Go.Proofs.YtfdbbpnmnogddaaGreatDoor.WFFnExactGoodFamilies
