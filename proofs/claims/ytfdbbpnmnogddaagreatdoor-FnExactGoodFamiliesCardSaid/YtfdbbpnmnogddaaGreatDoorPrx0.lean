/- Functions of the given program as plain Lean functions, and that the machine's calls come to them; written by a program of this session; no condition but those that each theorem states. -/
import Derived.Test.YtfdbbpnmnogddaaGreatDoorProg
import Derived.Below
import Derived.Deep.Draws
import Derived.Deep.AppendLies
import Derived.Maps.AppendAt
import Derived.OwnWalk
import Derived.Laws.BytesArg
import Derived.Laws.MakeOwn
import Derived.Laws.OwnMore
import Derived.Deep.OwnRows
import Derived.Tactics
import Derived.Lib.ConvBytes
import Derived.Laws.Slices
import Derived.WalkKit
import Derived.KernelRfl
import Derived.RowKit3
import Derived.Deep.LoopGhost
import Derived.Deep.QuietTactic
import Derived.BigQuiet
import Derived.WideLaws
import Derived.Deep.DeepCutAuto
import Derived.Deep.CutBlock
import Derived.Deep.RegionHeld3
import Derived.Laws.Rows
import Derived.Lib.AppendStr
import Derived.ArgAppend
import Derived.Laws.IdiomCopy
import Derived.OrdersHeld
import Derived.Laws.BitsLemmas
import Derived.RowKit
import Derived.Lib.SliceRun
import Derived.Test.YtfdbbpnmnogddaaGreatDoorGt
import Derived.Test.YtfdbbpnmnogddaaGreatDoorCz
import Derived.Lib.OwnBridge
import Derived.Sort.OwnSortedInts
import Derived.Test.YtfdbbpnmnogddaaGreatDoorTb
import Derived.Test.YtfdbbpnmnogddaaGreatDoorWWords
import Derived.Test.YtfdbbpnmnogddaaGreatDoorWLast
import Derived.Test.YtfdbbpnmnogddaaGreatDoorWTab
import Derived.Test.YtfdbbpnmnogddaaGreatDoorWQPut
import Derived.Test.YtfdbbpnmnogddaaGreatDoorWApart
import Derived.Test.YtfdbbpnmnogddaaGreatDoorWArr
import Derived.Test.YtfdbbpnmnogddaaGreatDoorWZeros
import Derived.Test.YtfdbbpnmnogddaaGreatDoorWFoot
import Derived.Test.YtfdbbpnmnogddaaGreatDoorWKept
import Derived.Test.YtfdbbpnmnogddaaGreatDoorWShare
import Derived.Test.YtfdbbpnmnogddaaGreatDoorWN
import Derived.Test.YtfdbbpnmnogddaaGreatDoorWGuard
import Derived.Test.YtfdbbpnmnogddaaGreatDoorWNEv
import Derived.Test.YtfdbbpnmnogddaaGreatDoorWMore
namespace Go.Proofs.YtfdbbpnmnogddaaGreatDoor.Pr
open Go.RowKit Go.Proofs.YtfdbbpnmnogddaaGreatDoorW.PrintWords Go.Proofs.YtfdbbpnmnogddaaGreatDoorW.PrintLast Go.Proofs.YtfdbbpnmnogddaaGreatDoorW.PrintMore
attribute [local go_sem] max2_int min2_int max_two min_two max_three min_three max_four min_four
set_option linter.unusedVariables false
set_option linter.unusedSimpArgs false
def errW:Option Int->Value
  | none => .nilIface
  | some c => .iface 114 (.int .i64 c)
theorem errW_none:errW none = .nilIface:=rfl
theorem errW_some (c:Int):errW (some c) = .iface 114 (.int .i64 c):=rfl
theorem info5:(Tryz.prog.info? 5).map (fun i=>(i.zero,i.size,i.bytes))=some (some (.int .u8 0),1,1):=by kernel_rfl
theorem info9:(Tryz.prog.info? 9).map (fun i=>(i.zero,i.size,i.bytes))=some (some (.string ⟨#[]⟩),1,16):=by kernel_rfl
theorem info29:(Tryz.prog.info? 29).map (fun i=>(i.zero,i.size,i.bytes))=some (some (.agg #[(.string ⟨#[]⟩),(.int .i64 0),(.string ⟨#[]⟩),(.slice none 0 0)]),4,64):=by kernel_rfl
theorem info46:(Tryz.prog.info? 46).map (fun i=>(i.zero,i.size,i.bytes))=some (some (.agg #[(.string ⟨#[]⟩),(.slice none 0 0),(.int .i64 0),(.bool false),(.int .i64 0),(.bool false),(.slice none 0 0),(.int .i64 0)]),8,104):=by kernel_rfl
theorem info70:(Tryz.prog.info? 70).map (fun i=>(i.zero,i.size,i.bytes))=some (some (.agg #[(.string ⟨#[]⟩),(.string ⟨#[]⟩)]),2,32):=by kernel_rfl
structure S102 where
  f0:ByteArray
  f1:ByteArray
def z102:S102:=⟨(⟨#[]⟩:ByteArray),(⟨#[]⟩:ByteArray)⟩
def k102:Kd S102:=Kd.iso (Kd.pair Kd.string Kd.string) (fun x:S102=>(x.f0,x.f1))
theorem k102_open {w:World}{x:S102}{cs:List Value}(h:k102.K w x cs):cs=[.string x.f0,.string x.f1]:=by
  obtain ⟨_,_,rfl,rfl,rfl⟩:=h
  exact rfl
theorem k102_openM {w:World}{base:Nat}{ok:Nat->Prop}{x:S102}{cs:List Value}(h:k102.M w base ok x cs):cs=[.string x.f0,.string x.f1]:=by
  obtain ⟨_,_,rfl,rfl,rfl⟩:=h
  exact rfl
theorem k102_mk (w:World)(x:S102)  : k102.K w x [.string x.f0,.string x.f1]:=⟨[.string x.f0],[.string x.f1],rfl,rfl,rfl⟩
theorem k102_mkM (w:World)(base:Nat)(ok:Nat->Prop)(x:S102)  : k102.M w base ok x [.string x.f0,.string x.f1]:=⟨[.string x.f0],[.string x.f1],rfl,rfl,rfl⟩
def rd_T102 (xs:List S102)(i:Int):S102:=xs.getD i.toNat z102
theorem at_T102 {w:World}{A:Option Addr}{n:Nat}{xs:List S102}(h:Kd.C k102 w A n xs)(i:Int)(h0:0<=i)(h1:i<n):∃ ad , A=some ad/\w.cell? (ad.add (i.toNat*2))=some (.string (rd_T102 xs i).f0)/\w.cell? ⟨(ad.add (i.toNat*2)).block,(ad.add (i.toNat*2)).off+1,none⟩=some (.string (rd_T102 xs i).f1):=by
  obtain ⟨ad,c,e,_,hK,hc0⟩:=Kd.C_get h z102 i h0 h1
  have hc:∀ j u,c[j]? = some u->w.cell? (ad.add (i.toNat*2+j))=some u:=hc0
  obtain rfl:=k102_open hK
  exact ⟨ad,e,hc 0 _ rfl,by rw [← add_field _ _ 1 (by omega)];exact hc 1 _ rfl⟩
def rd_L2 (xs:List (List S102))(i:Int):(List S102):=xs.getD i.toNat ([]:List S102)
theorem at_L2 {w:World}{A:Option Addr}{n:Nat}{xs:List (List S102)}(h:Kd.C (Kd.slice 102 k102) w A n xs)(i:Int)(h0:0<=i)(h1:i<n):∃ ad A0 c0,A=some ad/\w.cell? (ad.add i.toNat)=some (.slice A0 (rd_L2 xs i).length c0)/\(rd_L2 xs i).length<=c0/\k102.C w A0 (rd_L2 xs i).length (rd_L2 xs i):=by
  obtain ⟨ad,c,e,_,hK,hc0⟩:=Kd.C_get h ([]:List S102) i h0 h1
  have hc:∀ j u,c[j]? = some u->w.cell? (ad.add (i.toNat*1+j))=some u:=hc0
  obtain ⟨A0,c0,rfl,l0,g0⟩:=hK
  exact ⟨ad,A0,c0,e,by have hq:=hc 0 _ rfl;rwa [Nat.mul_one,Nat.add_zero] at hq,l0,g0⟩
structure S61 where
  f0:Bool
  f1:(List S102)
  f2:Int
def z61:S61:=⟨false,([]:List S102),(0:Int)⟩
def k61:Kd S61:=Kd.iso (Kd.pair Kd.bool (Kd.pair (Kd.slice 102 k102) (Kd.int .i64))) (fun x:S61=>(x.f0,x.f1,x.f2))
theorem k61_open {w:World}{x:S61}{cs:List Value}(h:k61.K w x cs):∃ A1 c1,cs=[.bool x.f0,.slice A1 x.f1.length c1,.int .i64 x.f2]/\x.f1.length<=c1/\k102.C w A1 x.f1.length x.f1:=by
  obtain ⟨_,_,rfl,rfl,⟨_,_,rfl,⟨A1,c1,rfl,l1,g1⟩,rfl⟩⟩:=h
  exact ⟨A1,c1,rfl,l1,g1⟩
theorem k61_openM {w:World}{base:Nat}{ok:Nat->Prop}{x:S61}{cs:List Value}(h:k61.M w base ok x cs):∃ v1,cs=[.bool x.f0,v1,.int .i64 x.f2]/\k102.R 102 w base ok v1 x.f1:=by
  obtain ⟨_,_,rfl,rfl,⟨_,_,rfl,⟨v1,rfl,g1⟩,rfl⟩⟩:=h
  exact ⟨v1,rfl,g1⟩
theorem k61_mk (w:World)(x:S61){A1:Option Addr}{c1:Nat}(l1:x.f1.length<=c1)(g1:k102.C w A1 x.f1.length x.f1):k61.K w x [.bool x.f0,.slice A1 x.f1.length c1,.int .i64 x.f2]:=⟨[.bool x.f0],[.slice A1 x.f1.length c1,.int .i64 x.f2],rfl,rfl,⟨[.slice A1 x.f1.length c1],[.int .i64 x.f2],rfl,⟨A1,c1,rfl,l1,g1⟩,rfl⟩⟩
theorem k61_mkM (w:World)(base:Nat)(ok:Nat->Prop)(x:S61){v1:Value}(g1:k102.R 102 w base ok v1 x.f1):k61.M w base ok x [.bool x.f0,v1,.int .i64 x.f2]:=⟨[.bool x.f0],[v1,.int .i64 x.f2],rfl,rfl,⟨[v1],[.int .i64 x.f2],rfl,⟨v1,rfl,g1⟩,rfl⟩⟩
def rd_T61 (xs:List S61)(i:Int):S61:=xs.getD i.toNat z61
theorem at_T61 {w:World}{A:Option Addr}{n:Nat}{xs:List S61}(h:Kd.C k61 w A n xs)(i:Int)(h0:0<=i)(h1:i<n):∃ ad A1 c1,A=some ad/\w.cell? (ad.add (i.toNat*3))=some (.bool (rd_T61 xs i).f0)/\w.cell? ⟨(ad.add (i.toNat*3)).block,(ad.add (i.toNat*3)).off+1,none⟩=some (.slice A1 (rd_T61 xs i).f1.length c1)/\w.cell? ⟨(ad.add (i.toNat*3)).block,(ad.add (i.toNat*3)).off+2,none⟩=some (.int .i64 (rd_T61 xs i).f2)/\(rd_T61 xs i).f1.length<=c1/\k102.C w A1 (rd_T61 xs i).f1.length (rd_T61 xs i).f1:=by
  obtain ⟨ad,c,e,_,hK,hc0⟩:=Kd.C_get h z61 i h0 h1
  have hc:∀ j u,c[j]? = some u->w.cell? (ad.add (i.toNat*3+j))=some u:=hc0
  obtain ⟨A1,c1,rfl,l1,g1⟩:=k61_open hK
  exact ⟨ad,A1,c1,e,hc 0 _ rfl,by rw [← add_field _ _ 1 (by omega)];exact hc 1 _ rfl,by rw [← add_field _ _ 2 (by omega)];exact hc 2 _ rfl,l1,g1⟩
structure S63 where
  f0:ByteArray
  f1:(List S102)
  f2:Int
  f3:Bool
  f4:Int
  f5:S61
def z63:S63:=⟨(⟨#[]⟩:ByteArray),([]:List S102),(0:Int),false,(0:Int),z61⟩
def k63:Kd S63:=Kd.iso (Kd.pair Kd.string (Kd.pair (Kd.slice 102 k102) (Kd.pair (Kd.int .i64) (Kd.pair Kd.bool (Kd.pair (Kd.int .i64) k61))))) (fun x:S63=>(x.f0,x.f1,x.f2,x.f3,x.f4,x.f5))
theorem k63_open {w:World}{x:S63}{cs:List Value}(h:k63.K w x cs):∃ A1 c1 A6 c6,cs=[.string x.f0,.slice A1 x.f1.length c1,.int .i64 x.f2,.bool x.f3,.int .i64 x.f4,.bool x.f5.f0,.slice A6 x.f5.f1.length c6,.int .i64 x.f5.f2]/\x.f1.length<=c1/\k102.C w A1 x.f1.length x.f1/\x.f5.f1.length<=c6/\k102.C w A6 x.f5.f1.length x.f5.f1:=by
  obtain ⟨_,_,rfl,rfl,⟨_,_,rfl,⟨A1,c1,rfl,l1,g1⟩,⟨_,_,rfl,rfl,⟨_,_,rfl,rfl,⟨_,_,rfl,rfl,s5⟩⟩⟩⟩⟩:=h
  obtain ⟨A6,c6,rfl,l6,g6⟩:=k61_open s5
  exact ⟨A1,c1,A6,c6,rfl,l1,g1,l6,g6⟩
theorem k63_openM {w:World}{base:Nat}{ok:Nat->Prop}{x:S63}{cs:List Value}(h:k63.M w base ok x cs):∃ v1 v6,cs=[.string x.f0,v1,.int .i64 x.f2,.bool x.f3,.int .i64 x.f4,.bool x.f5.f0,v6,.int .i64 x.f5.f2]/\k102.R 102 w base ok v1 x.f1/\k102.R 102 w base ok v6 x.f5.f1:=by
  obtain ⟨_,_,rfl,rfl,⟨_,_,rfl,⟨v1,rfl,g1⟩,⟨_,_,rfl,rfl,⟨_,_,rfl,rfl,⟨_,_,rfl,rfl,s5⟩⟩⟩⟩⟩:=h
  obtain ⟨v6,rfl,g6⟩:=k61_openM s5
  exact ⟨v1,v6,rfl,g1,g6⟩
theorem k63_mk (w:World)(x:S63){A1:Option Addr}{c1:Nat}(l1:x.f1.length<=c1)(g1:k102.C w A1 x.f1.length x.f1){A6:Option Addr}{c6:Nat}(l6:x.f5.f1.length<=c6)(g6:k102.C w A6 x.f5.f1.length x.f5.f1):k63.K w x [.string x.f0,.slice A1 x.f1.length c1,.int .i64 x.f2,.bool x.f3,.int .i64 x.f4,.bool x.f5.f0,.slice A6 x.f5.f1.length c6,.int .i64 x.f5.f2]:=⟨[.string x.f0],[.slice A1 x.f1.length c1,.int .i64 x.f2,.bool x.f3,.int .i64 x.f4,.bool x.f5.f0,.slice A6 x.f5.f1.length c6,.int .i64 x.f5.f2],rfl,rfl,⟨[.slice A1 x.f1.length c1],[.int .i64 x.f2,.bool x.f3,.int .i64 x.f4,.bool x.f5.f0,.slice A6 x.f5.f1.length c6,.int .i64 x.f5.f2],rfl,⟨A1,c1,rfl,l1,g1⟩,⟨[.int .i64 x.f2],[.bool x.f3,.int .i64 x.f4,.bool x.f5.f0,.slice A6 x.f5.f1.length c6,.int .i64 x.f5.f2],rfl,rfl,⟨[.bool x.f3],[.int .i64 x.f4,.bool x.f5.f0,.slice A6 x.f5.f1.length c6,.int .i64 x.f5.f2],rfl,rfl,⟨[.int .i64 x.f4],[.bool x.f5.f0,.slice A6 x.f5.f1.length c6,.int .i64 x.f5.f2],rfl,rfl,(k61_mk w x.f5 l6 g6)⟩⟩⟩⟩⟩
theorem k63_mkM (w:World)(base:Nat)(ok:Nat->Prop)(x:S63){v1:Value}(g1:k102.R 102 w base ok v1 x.f1){v6:Value}(g6:k102.R 102 w base ok v6 x.f5.f1):k63.M w base ok x [.string x.f0,v1,.int .i64 x.f2,.bool x.f3,.int .i64 x.f4,.bool x.f5.f0,v6,.int .i64 x.f5.f2]:=⟨[.string x.f0],[v1,.int .i64 x.f2,.bool x.f3,.int .i64 x.f4,.bool x.f5.f0,v6,.int .i64 x.f5.f2],rfl,rfl,⟨[v1],[.int .i64 x.f2,.bool x.f3,.int .i64 x.f4,.bool x.f5.f0,v6,.int .i64 x.f5.f2],rfl,⟨v1,rfl,g1⟩,⟨[.int .i64 x.f2],[.bool x.f3,.int .i64 x.f4,.bool x.f5.f0,v6,.int .i64 x.f5.f2],rfl,rfl,⟨[.bool x.f3],[.int .i64 x.f4,.bool x.f5.f0,v6,.int .i64 x.f5.f2],rfl,rfl,⟨[.int .i64 x.f4],[.bool x.f5.f0,v6,.int .i64 x.f5.f2],rfl,rfl,(k61_mkM w base ok x.f5 g6)⟩⟩⟩⟩⟩
def rd_T63 (xs:List S63)(i:Int):S63:=xs.getD i.toNat z63
theorem at_T63 {w:World}{A:Option Addr}{n:Nat}{xs:List S63}(h:Kd.C k63 w A n xs)(i:Int)(h0:0<=i)(h1:i<n):∃ ad A1 c1 A6 c6,A=some ad/\w.cell? (ad.add (i.toNat*8))=some (.string (rd_T63 xs i).f0)/\w.cell? ⟨(ad.add (i.toNat*8)).block,(ad.add (i.toNat*8)).off+1,none⟩=some (.slice A1 (rd_T63 xs i).f1.length c1)/\w.cell? ⟨(ad.add (i.toNat*8)).block,(ad.add (i.toNat*8)).off+2,none⟩=some (.int .i64 (rd_T63 xs i).f2)/\w.cell? ⟨(ad.add (i.toNat*8)).block,(ad.add (i.toNat*8)).off+3,none⟩=some (.bool (rd_T63 xs i).f3)/\w.cell? ⟨(ad.add (i.toNat*8)).block,(ad.add (i.toNat*8)).off+4,none⟩=some (.int .i64 (rd_T63 xs i).f4)/\w.cell? ⟨(ad.add (i.toNat*8)).block,(ad.add (i.toNat*8)).off+5,none⟩=some (.bool (rd_T63 xs i).f5.f0)/\w.cell? ⟨(ad.add (i.toNat*8)).block,(ad.add (i.toNat*8)).off+6,none⟩=some (.slice A6 (rd_T63 xs i).f5.f1.length c6)/\w.cell? ⟨(ad.add (i.toNat*8)).block,(ad.add (i.toNat*8)).off+7,none⟩=some (.int .i64 (rd_T63 xs i).f5.f2)/\(rd_T63 xs i).f1.length<=c1/\k102.C w A1 (rd_T63 xs i).f1.length (rd_T63 xs i).f1/\(rd_T63 xs i).f5.f1.length<=c6/\k102.C w A6 (rd_T63 xs i).f5.f1.length (rd_T63 xs i).f5.f1:=by
  obtain ⟨ad,c,e,_,hK,hc0⟩:=Kd.C_get h z63 i h0 h1
  have hc:∀ j u,c[j]? = some u->w.cell? (ad.add (i.toNat*8+j))=some u:=hc0
  obtain ⟨A1,c1,A6,c6,rfl,l1,g1,l6,g6⟩:=k63_open hK
  exact ⟨ad,A1,c1,A6,c6,e,hc 0 _ rfl,by rw [← add_field _ _ 1 (by omega)];exact hc 1 _ rfl,by rw [← add_field _ _ 2 (by omega)];exact hc 2 _ rfl,by rw [← add_field _ _ 3 (by omega)];exact hc 3 _ rfl,by rw [← add_field _ _ 4 (by omega)];exact hc 4 _ rfl,by rw [← add_field _ _ 5 (by omega)];exact hc 5 _ rfl,by rw [← add_field _ _ 6 (by omega)];exact hc 6 _ rfl,by rw [← add_field _ _ 7 (by omega)];exact hc 7 _ rfl,l1,g1,l6,g6⟩
structure S70 where
  f0:ByteArray
  f1:ByteArray
def z70:S70:=⟨(⟨#[]⟩:ByteArray),(⟨#[]⟩:ByteArray)⟩
def k70:Kd S70:=Kd.iso (Kd.pair Kd.string Kd.string) (fun x:S70=>(x.f0,x.f1))
theorem k70_open {w:World}{x:S70}{cs:List Value}(h:k70.K w x cs):cs=[.string x.f0,.string x.f1]:=by
  obtain ⟨_,_,rfl,rfl,rfl⟩:=h
  exact rfl
theorem k70_openM {w:World}{base:Nat}{ok:Nat->Prop}{x:S70}{cs:List Value}(h:k70.M w base ok x cs):cs=[.string x.f0,.string x.f1]:=by
  obtain ⟨_,_,rfl,rfl,rfl⟩:=h
  exact rfl
theorem k70_mk (w:World)(x:S70)  : k70.K w x [.string x.f0,.string x.f1]:=⟨[.string x.f0],[.string x.f1],rfl,rfl,rfl⟩
theorem k70_mkM (w:World)(base:Nat)(ok:Nat->Prop)(x:S70)  : k70.M w base ok x [.string x.f0,.string x.f1]:=⟨[.string x.f0],[.string x.f1],rfl,rfl,rfl⟩
def rd_T70 (xs:List S70)(i:Int):S70:=xs.getD i.toNat z70
theorem at_T70 {w:World}{A:Option Addr}{n:Nat}{xs:List S70}(h:Kd.C k70 w A n xs)(i:Int)(h0:0<=i)(h1:i<n):∃ ad , A=some ad/\w.cell? (ad.add (i.toNat*2))=some (.string (rd_T70 xs i).f0)/\w.cell? ⟨(ad.add (i.toNat*2)).block,(ad.add (i.toNat*2)).off+1,none⟩=some (.string (rd_T70 xs i).f1):=by
  obtain ⟨ad,c,e,_,hK,hc0⟩:=Kd.C_get h z70 i h0 h1
  have hc:∀ j u,c[j]? = some u->w.cell? (ad.add (i.toNat*2+j))=some u:=hc0
  obtain rfl:=k70_open hK
  exact ⟨ad,e,hc 0 _ rfl,by rw [← add_field _ _ 1 (by omega)];exact hc 1 _ rfl⟩
def rd_L8 (xs:List (List S70))(i:Int):(List S70):=xs.getD i.toNat ([]:List S70)
theorem at_L8 {w:World}{A:Option Addr}{n:Nat}{xs:List (List S70)}(h:Kd.C (Kd.slice 70 k70) w A n xs)(i:Int)(h0:0<=i)(h1:i<n):∃ ad A0 c0,A=some ad/\w.cell? (ad.add i.toNat)=some (.slice A0 (rd_L8 xs i).length c0)/\(rd_L8 xs i).length<=c0/\k70.C w A0 (rd_L8 xs i).length (rd_L8 xs i):=by
  obtain ⟨ad,c,e,_,hK,hc0⟩:=Kd.C_get h ([]:List S70) i h0 h1
  have hc:∀ j u,c[j]? = some u->w.cell? (ad.add (i.toNat*1+j))=some u:=hc0
  obtain ⟨A0,c0,rfl,l0,g0⟩:=hK
  exact ⟨ad,A0,c0,e,by have hq:=hc 0 _ rfl;rwa [Nat.mul_one,Nat.add_zero] at hq,l0,g0⟩
structure S44 where
  f0:Bool
  f1:(List S70)
  f2:Int
def z44:S44:=⟨false,([]:List S70),(0:Int)⟩
def k44:Kd S44:=Kd.iso (Kd.pair Kd.bool (Kd.pair (Kd.slice 70 k70) (Kd.int .i64))) (fun x:S44=>(x.f0,x.f1,x.f2))
theorem k44_open {w:World}{x:S44}{cs:List Value}(h:k44.K w x cs):∃ A1 c1,cs=[.bool x.f0,.slice A1 x.f1.length c1,.int .i64 x.f2]/\x.f1.length<=c1/\k70.C w A1 x.f1.length x.f1:=by
  obtain ⟨_,_,rfl,rfl,⟨_,_,rfl,⟨A1,c1,rfl,l1,g1⟩,rfl⟩⟩:=h
  exact ⟨A1,c1,rfl,l1,g1⟩
theorem k44_openM {w:World}{base:Nat}{ok:Nat->Prop}{x:S44}{cs:List Value}(h:k44.M w base ok x cs):∃ v1,cs=[.bool x.f0,v1,.int .i64 x.f2]/\k70.R 70 w base ok v1 x.f1:=by
  obtain ⟨_,_,rfl,rfl,⟨_,_,rfl,⟨v1,rfl,g1⟩,rfl⟩⟩:=h
  exact ⟨v1,rfl,g1⟩
theorem k44_mk (w:World)(x:S44){A1:Option Addr}{c1:Nat}(l1:x.f1.length<=c1)(g1:k70.C w A1 x.f1.length x.f1):k44.K w x [.bool x.f0,.slice A1 x.f1.length c1,.int .i64 x.f2]:=⟨[.bool x.f0],[.slice A1 x.f1.length c1,.int .i64 x.f2],rfl,rfl,⟨[.slice A1 x.f1.length c1],[.int .i64 x.f2],rfl,⟨A1,c1,rfl,l1,g1⟩,rfl⟩⟩
theorem k44_mkM (w:World)(base:Nat)(ok:Nat->Prop)(x:S44){v1:Value}(g1:k70.R 70 w base ok v1 x.f1):k44.M w base ok x [.bool x.f0,v1,.int .i64 x.f2]:=⟨[.bool x.f0],[v1,.int .i64 x.f2],rfl,rfl,⟨[v1],[.int .i64 x.f2],rfl,⟨v1,rfl,g1⟩,rfl⟩⟩
def rd_T44 (xs:List S44)(i:Int):S44:=xs.getD i.toNat z44
theorem at_T44 {w:World}{A:Option Addr}{n:Nat}{xs:List S44}(h:Kd.C k44 w A n xs)(i:Int)(h0:0<=i)(h1:i<n):∃ ad A1 c1,A=some ad/\w.cell? (ad.add (i.toNat*3))=some (.bool (rd_T44 xs i).f0)/\w.cell? ⟨(ad.add (i.toNat*3)).block,(ad.add (i.toNat*3)).off+1,none⟩=some (.slice A1 (rd_T44 xs i).f1.length c1)/\w.cell? ⟨(ad.add (i.toNat*3)).block,(ad.add (i.toNat*3)).off+2,none⟩=some (.int .i64 (rd_T44 xs i).f2)/\(rd_T44 xs i).f1.length<=c1/\k70.C w A1 (rd_T44 xs i).f1.length (rd_T44 xs i).f1:=by
  obtain ⟨ad,c,e,_,hK,hc0⟩:=Kd.C_get h z44 i h0 h1
  have hc:∀ j u,c[j]? = some u->w.cell? (ad.add (i.toNat*3+j))=some u:=hc0
  obtain ⟨A1,c1,rfl,l1,g1⟩:=k44_open hK
  exact ⟨ad,A1,c1,e,hc 0 _ rfl,by rw [← add_field _ _ 1 (by omega)];exact hc 1 _ rfl,by rw [← add_field _ _ 2 (by omega)];exact hc 2 _ rfl,l1,g1⟩
structure S46 where
  f0:ByteArray
  f1:(List S70)
  f2:Int
  f3:Bool
  f4:Int
  f5:S44
def z46:S46:=⟨(⟨#[]⟩:ByteArray),([]:List S70),(0:Int),false,(0:Int),z44⟩
def k46:Kd S46:=Kd.iso (Kd.pair Kd.string (Kd.pair (Kd.slice 70 k70) (Kd.pair (Kd.int .i64) (Kd.pair Kd.bool (Kd.pair (Kd.int .i64) k44))))) (fun x:S46=>(x.f0,x.f1,x.f2,x.f3,x.f4,x.f5))
theorem k46_open {w:World}{x:S46}{cs:List Value}(h:k46.K w x cs):∃ A1 c1 A6 c6,cs=[.string x.f0,.slice A1 x.f1.length c1,.int .i64 x.f2,.bool x.f3,.int .i64 x.f4,.bool x.f5.f0,.slice A6 x.f5.f1.length c6,.int .i64 x.f5.f2]/\x.f1.length<=c1/\k70.C w A1 x.f1.length x.f1/\x.f5.f1.length<=c6/\k70.C w A6 x.f5.f1.length x.f5.f1:=by
  obtain ⟨_,_,rfl,rfl,⟨_,_,rfl,⟨A1,c1,rfl,l1,g1⟩,⟨_,_,rfl,rfl,⟨_,_,rfl,rfl,⟨_,_,rfl,rfl,s5⟩⟩⟩⟩⟩:=h
  obtain ⟨A6,c6,rfl,l6,g6⟩:=k44_open s5
  exact ⟨A1,c1,A6,c6,rfl,l1,g1,l6,g6⟩
theorem k46_openM {w:World}{base:Nat}{ok:Nat->Prop}{x:S46}{cs:List Value}(h:k46.M w base ok x cs):∃ v1 v6,cs=[.string x.f0,v1,.int .i64 x.f2,.bool x.f3,.int .i64 x.f4,.bool x.f5.f0,v6,.int .i64 x.f5.f2]/\k70.R 70 w base ok v1 x.f1/\k70.R 70 w base ok v6 x.f5.f1:=by
  obtain ⟨_,_,rfl,rfl,⟨_,_,rfl,⟨v1,rfl,g1⟩,⟨_,_,rfl,rfl,⟨_,_,rfl,rfl,⟨_,_,rfl,rfl,s5⟩⟩⟩⟩⟩:=h
  obtain ⟨v6,rfl,g6⟩:=k44_openM s5
  exact ⟨v1,v6,rfl,g1,g6⟩
theorem k46_mk (w:World)(x:S46){A1:Option Addr}{c1:Nat}(l1:x.f1.length<=c1)(g1:k70.C w A1 x.f1.length x.f1){A6:Option Addr}{c6:Nat}(l6:x.f5.f1.length<=c6)(g6:k70.C w A6 x.f5.f1.length x.f5.f1):k46.K w x [.string x.f0,.slice A1 x.f1.length c1,.int .i64 x.f2,.bool x.f3,.int .i64 x.f4,.bool x.f5.f0,.slice A6 x.f5.f1.length c6,.int .i64 x.f5.f2]:=⟨[.string x.f0],[.slice A1 x.f1.length c1,.int .i64 x.f2,.bool x.f3,.int .i64 x.f4,.bool x.f5.f0,.slice A6 x.f5.f1.length c6,.int .i64 x.f5.f2],rfl,rfl,⟨[.slice A1 x.f1.length c1],[.int .i64 x.f2,.bool x.f3,.int .i64 x.f4,.bool x.f5.f0,.slice A6 x.f5.f1.length c6,.int .i64 x.f5.f2],rfl,⟨A1,c1,rfl,l1,g1⟩,⟨[.int .i64 x.f2],[.bool x.f3,.int .i64 x.f4,.bool x.f5.f0,.slice A6 x.f5.f1.length c6,.int .i64 x.f5.f2],rfl,rfl,⟨[.bool x.f3],[.int .i64 x.f4,.bool x.f5.f0,.slice A6 x.f5.f1.length c6,.int .i64 x.f5.f2],rfl,rfl,⟨[.int .i64 x.f4],[.bool x.f5.f0,.slice A6 x.f5.f1.length c6,.int .i64 x.f5.f2],rfl,rfl,(k44_mk w x.f5 l6 g6)⟩⟩⟩⟩⟩
theorem k46_mkM (w:World)(base:Nat)(ok:Nat->Prop)(x:S46){v1:Value}(g1:k70.R 70 w base ok v1 x.f1){v6:Value}(g6:k70.R 70 w base ok v6 x.f5.f1):k46.M w base ok x [.string x.f0,v1,.int .i64 x.f2,.bool x.f3,.int .i64 x.f4,.bool x.f5.f0,v6,.int .i64 x.f5.f2]:=⟨[.string x.f0],[v1,.int .i64 x.f2,.bool x.f3,.int .i64 x.f4,.bool x.f5.f0,v6,.int .i64 x.f5.f2],rfl,rfl,⟨[v1],[.int .i64 x.f2,.bool x.f3,.int .i64 x.f4,.bool x.f5.f0,v6,.int .i64 x.f5.f2],rfl,⟨v1,rfl,g1⟩,⟨[.int .i64 x.f2],[.bool x.f3,.int .i64 x.f4,.bool x.f5.f0,v6,.int .i64 x.f5.f2],rfl,rfl,⟨[.bool x.f3],[.int .i64 x.f4,.bool x.f5.f0,v6,.int .i64 x.f5.f2],rfl,rfl,⟨[.int .i64 x.f4],[.bool x.f5.f0,v6,.int .i64 x.f5.f2],rfl,rfl,(k44_mkM w base ok x.f5 g6)⟩⟩⟩⟩⟩
def rd_T46 (xs:List S46)(i:Int):S46:=xs.getD i.toNat z46
theorem at_T46 {w:World}{A:Option Addr}{n:Nat}{xs:List S46}(h:Kd.C k46 w A n xs)(i:Int)(h0:0<=i)(h1:i<n):∃ ad A1 c1 A6 c6,A=some ad/\w.cell? (ad.add (i.toNat*8))=some (.string (rd_T46 xs i).f0)/\w.cell? ⟨(ad.add (i.toNat*8)).block,(ad.add (i.toNat*8)).off+1,none⟩=some (.slice A1 (rd_T46 xs i).f1.length c1)/\w.cell? ⟨(ad.add (i.toNat*8)).block,(ad.add (i.toNat*8)).off+2,none⟩=some (.int .i64 (rd_T46 xs i).f2)/\w.cell? ⟨(ad.add (i.toNat*8)).block,(ad.add (i.toNat*8)).off+3,none⟩=some (.bool (rd_T46 xs i).f3)/\w.cell? ⟨(ad.add (i.toNat*8)).block,(ad.add (i.toNat*8)).off+4,none⟩=some (.int .i64 (rd_T46 xs i).f4)/\w.cell? ⟨(ad.add (i.toNat*8)).block,(ad.add (i.toNat*8)).off+5,none⟩=some (.bool (rd_T46 xs i).f5.f0)/\w.cell? ⟨(ad.add (i.toNat*8)).block,(ad.add (i.toNat*8)).off+6,none⟩=some (.slice A6 (rd_T46 xs i).f5.f1.length c6)/\w.cell? ⟨(ad.add (i.toNat*8)).block,(ad.add (i.toNat*8)).off+7,none⟩=some (.int .i64 (rd_T46 xs i).f5.f2)/\(rd_T46 xs i).f1.length<=c1/\k70.C w A1 (rd_T46 xs i).f1.length (rd_T46 xs i).f1/\(rd_T46 xs i).f5.f1.length<=c6/\k70.C w A6 (rd_T46 xs i).f5.f1.length (rd_T46 xs i).f5.f1:=by
  obtain ⟨ad,c,e,_,hK,hc0⟩:=Kd.C_get h z46 i h0 h1
  have hc:∀ j u,c[j]? = some u->w.cell? (ad.add (i.toNat*8+j))=some u:=hc0
  obtain ⟨A1,c1,A6,c6,rfl,l1,g1,l6,g6⟩:=k46_open hK
  exact ⟨ad,A1,c1,A6,c6,e,hc 0 _ rfl,by rw [← add_field _ _ 1 (by omega)];exact hc 1 _ rfl,by rw [← add_field _ _ 2 (by omega)];exact hc 2 _ rfl,by rw [← add_field _ _ 3 (by omega)];exact hc 3 _ rfl,by rw [← add_field _ _ 4 (by omega)];exact hc 4 _ rfl,by rw [← add_field _ _ 5 (by omega)];exact hc 5 _ rfl,by rw [← add_field _ _ 6 (by omega)];exact hc 6 _ rfl,by rw [← add_field _ _ 7 (by omega)];exact hc 7 _ rfl,l1,g1,l6,g6⟩
def rd_L12 (xs:List (List S63))(i:Int):(List S63):=xs.getD i.toNat ([]:List S63)
theorem at_L12 {w:World}{A:Option Addr}{n:Nat}{xs:List (List S63)}(h:Kd.C (Kd.slice 63 k63) w A n xs)(i:Int)(h0:0<=i)(h1:i<n):∃ ad A0 c0,A=some ad/\w.cell? (ad.add i.toNat)=some (.slice A0 (rd_L12 xs i).length c0)/\(rd_L12 xs i).length<=c0/\k63.C w A0 (rd_L12 xs i).length (rd_L12 xs i):=by
  obtain ⟨ad,c,e,_,hK,hc0⟩:=Kd.C_get h ([]:List S63) i h0 h1
  have hc:∀ j u,c[j]? = some u->w.cell? (ad.add (i.toNat*1+j))=some u:=hc0
  obtain ⟨A0,c0,rfl,l0,g0⟩:=hK
  exact ⟨ad,A0,c0,e,by have hq:=hc 0 _ rfl;rwa [Nat.mul_one,Nat.add_zero] at hq,l0,g0⟩
structure S24 where
  f0:ByteArray
  f1:Int
  f2:ByteArray
  f3:(List S63)
def z24:S24:=⟨(⟨#[]⟩:ByteArray),(0:Int),(⟨#[]⟩:ByteArray),([]:List S63)⟩
def k24:Kd S24:=Kd.iso (Kd.pair Kd.string (Kd.pair (Kd.int .i64) (Kd.pair Kd.string (Kd.slice 63 k63)))) (fun x:S24=>(x.f0,x.f1,x.f2,x.f3))
theorem k24_open {w:World}{x:S24}{cs:List Value}(h:k24.K w x cs):∃ A3 c3,cs=[.string x.f0,.int .i64 x.f1,.string x.f2,.slice A3 x.f3.length c3]/\x.f3.length<=c3/\k63.C w A3 x.f3.length x.f3:=by
  obtain ⟨_,_,rfl,rfl,⟨_,_,rfl,rfl,⟨_,_,rfl,rfl,⟨A3,c3,rfl,l3,g3⟩⟩⟩⟩:=h
  exact ⟨A3,c3,rfl,l3,g3⟩
theorem k24_openM {w:World}{base:Nat}{ok:Nat->Prop}{x:S24}{cs:List Value}(h:k24.M w base ok x cs):∃ v3,cs=[.string x.f0,.int .i64 x.f1,.string x.f2,v3]/\k63.R 63 w base ok v3 x.f3:=by
  obtain ⟨_,_,rfl,rfl,⟨_,_,rfl,rfl,⟨_,_,rfl,rfl,⟨v3,rfl,g3⟩⟩⟩⟩:=h
  exact ⟨v3,rfl,g3⟩
theorem k24_mk (w:World)(x:S24){A3:Option Addr}{c3:Nat}(l3:x.f3.length<=c3)(g3:k63.C w A3 x.f3.length x.f3):k24.K w x [.string x.f0,.int .i64 x.f1,.string x.f2,.slice A3 x.f3.length c3]:=⟨[.string x.f0],[.int .i64 x.f1,.string x.f2,.slice A3 x.f3.length c3],rfl,rfl,⟨[.int .i64 x.f1],[.string x.f2,.slice A3 x.f3.length c3],rfl,rfl,⟨[.string x.f2],[.slice A3 x.f3.length c3],rfl,rfl,⟨A3,c3,rfl,l3,g3⟩⟩⟩⟩
theorem k24_mkM (w:World)(base:Nat)(ok:Nat->Prop)(x:S24){v3:Value}(g3:k63.R 63 w base ok v3 x.f3):k24.M w base ok x [.string x.f0,.int .i64 x.f1,.string x.f2,v3]:=⟨[.string x.f0],[.int .i64 x.f1,.string x.f2,v3],rfl,rfl,⟨[.int .i64 x.f1],[.string x.f2,v3],rfl,rfl,⟨[.string x.f2],[v3],rfl,rfl,⟨v3,rfl,g3⟩⟩⟩⟩
def rd_T24 (xs:List S24)(i:Int):S24:=xs.getD i.toNat z24
theorem at_T24 {w:World}{A:Option Addr}{n:Nat}{xs:List S24}(h:Kd.C k24 w A n xs)(i:Int)(h0:0<=i)(h1:i<n):∃ ad A3 c3,A=some ad/\w.cell? (ad.add (i.toNat*4))=some (.string (rd_T24 xs i).f0)/\w.cell? ⟨(ad.add (i.toNat*4)).block,(ad.add (i.toNat*4)).off+1,none⟩=some (.int .i64 (rd_T24 xs i).f1)/\w.cell? ⟨(ad.add (i.toNat*4)).block,(ad.add (i.toNat*4)).off+2,none⟩=some (.string (rd_T24 xs i).f2)/\w.cell? ⟨(ad.add (i.toNat*4)).block,(ad.add (i.toNat*4)).off+3,none⟩=some (.slice A3 (rd_T24 xs i).f3.length c3)/\(rd_T24 xs i).f3.length<=c3/\k63.C w A3 (rd_T24 xs i).f3.length (rd_T24 xs i).f3:=by
  obtain ⟨ad,c,e,_,hK,hc0⟩:=Kd.C_get h z24 i h0 h1
  have hc:∀ j u,c[j]? = some u->w.cell? (ad.add (i.toNat*4+j))=some u:=hc0
  obtain ⟨A3,c3,rfl,l3,g3⟩:=k24_open hK
  exact ⟨ad,A3,c3,e,hc 0 _ rfl,by rw [← add_field _ _ 1 (by omega)];exact hc 1 _ rfl,by rw [← add_field _ _ 2 (by omega)];exact hc 2 _ rfl,by rw [← add_field _ _ 3 (by omega)];exact hc 3 _ rfl,l3,g3⟩
def rd_L14 (xs:List (List S46))(i:Int):(List S46):=xs.getD i.toNat ([]:List S46)
theorem at_L14 {w:World}{A:Option Addr}{n:Nat}{xs:List (List S46)}(h:Kd.C (Kd.slice 46 k46) w A n xs)(i:Int)(h0:0<=i)(h1:i<n):∃ ad A0 c0,A=some ad/\w.cell? (ad.add i.toNat)=some (.slice A0 (rd_L14 xs i).length c0)/\(rd_L14 xs i).length<=c0/\k46.C w A0 (rd_L14 xs i).length (rd_L14 xs i):=by
  obtain ⟨ad,c,e,_,hK,hc0⟩:=Kd.C_get h ([]:List S46) i h0 h1
  have hc:∀ j u,c[j]? = some u->w.cell? (ad.add (i.toNat*1+j))=some u:=hc0
  obtain ⟨A0,c0,rfl,l0,g0⟩:=hK
  exact ⟨ad,A0,c0,e,by have hq:=hc 0 _ rfl;rwa [Nat.mul_one,Nat.add_zero] at hq,l0,g0⟩
structure S29 where
  f0:ByteArray
  f1:Int
  f2:ByteArray
  f3:(List S46)
def z29:S29:=⟨(⟨#[]⟩:ByteArray),(0:Int),(⟨#[]⟩:ByteArray),([]:List S46)⟩
def k29:Kd S29:=Kd.iso (Kd.pair Kd.string (Kd.pair (Kd.int .i64) (Kd.pair Kd.string (Kd.slice 46 k46)))) (fun x:S29=>(x.f0,x.f1,x.f2,x.f3))
theorem k29_open {w:World}{x:S29}{cs:List Value}(h:k29.K w x cs):∃ A3 c3,cs=[.string x.f0,.int .i64 x.f1,.string x.f2,.slice A3 x.f3.length c3]/\x.f3.length<=c3/\k46.C w A3 x.f3.length x.f3:=by
  obtain ⟨_,_,rfl,rfl,⟨_,_,rfl,rfl,⟨_,_,rfl,rfl,⟨A3,c3,rfl,l3,g3⟩⟩⟩⟩:=h
  exact ⟨A3,c3,rfl,l3,g3⟩
theorem k29_openM {w:World}{base:Nat}{ok:Nat->Prop}{x:S29}{cs:List Value}(h:k29.M w base ok x cs):∃ v3,cs=[.string x.f0,.int .i64 x.f1,.string x.f2,v3]/\k46.R 46 w base ok v3 x.f3:=by
  obtain ⟨_,_,rfl,rfl,⟨_,_,rfl,rfl,⟨_,_,rfl,rfl,⟨v3,rfl,g3⟩⟩⟩⟩:=h
  exact ⟨v3,rfl,g3⟩
theorem k29_mk (w:World)(x:S29){A3:Option Addr}{c3:Nat}(l3:x.f3.length<=c3)(g3:k46.C w A3 x.f3.length x.f3):k29.K w x [.string x.f0,.int .i64 x.f1,.string x.f2,.slice A3 x.f3.length c3]:=⟨[.string x.f0],[.int .i64 x.f1,.string x.f2,.slice A3 x.f3.length c3],rfl,rfl,⟨[.int .i64 x.f1],[.string x.f2,.slice A3 x.f3.length c3],rfl,rfl,⟨[.string x.f2],[.slice A3 x.f3.length c3],rfl,rfl,⟨A3,c3,rfl,l3,g3⟩⟩⟩⟩
theorem k29_mkM (w:World)(base:Nat)(ok:Nat->Prop)(x:S29){v3:Value}(g3:k46.R 46 w base ok v3 x.f3):k29.M w base ok x [.string x.f0,.int .i64 x.f1,.string x.f2,v3]:=⟨[.string x.f0],[.int .i64 x.f1,.string x.f2,v3],rfl,rfl,⟨[.int .i64 x.f1],[.string x.f2,v3],rfl,rfl,⟨[.string x.f2],[v3],rfl,rfl,⟨v3,rfl,g3⟩⟩⟩⟩
def rd_T29 (xs:List S29)(i:Int):S29:=xs.getD i.toNat z29
theorem at_T29 {w:World}{A:Option Addr}{n:Nat}{xs:List S29}(h:Kd.C k29 w A n xs)(i:Int)(h0:0<=i)(h1:i<n):∃ ad A3 c3,A=some ad/\w.cell? (ad.add (i.toNat*4))=some (.string (rd_T29 xs i).f0)/\w.cell? ⟨(ad.add (i.toNat*4)).block,(ad.add (i.toNat*4)).off+1,none⟩=some (.int .i64 (rd_T29 xs i).f1)/\w.cell? ⟨(ad.add (i.toNat*4)).block,(ad.add (i.toNat*4)).off+2,none⟩=some (.string (rd_T29 xs i).f2)/\w.cell? ⟨(ad.add (i.toNat*4)).block,(ad.add (i.toNat*4)).off+3,none⟩=some (.slice A3 (rd_T29 xs i).f3.length c3)/\(rd_T29 xs i).f3.length<=c3/\k46.C w A3 (rd_T29 xs i).f3.length (rd_T29 xs i).f3:=by
  obtain ⟨ad,c,e,_,hK,hc0⟩:=Kd.C_get h z29 i h0 h1
  have hc:∀ j u,c[j]? = some u->w.cell? (ad.add (i.toNat*4+j))=some u:=hc0
  obtain ⟨A3,c3,rfl,l3,g3⟩:=k29_open hK
  exact ⟨ad,A3,c3,e,hc 0 _ rfl,by rw [← add_field _ _ 1 (by omega)];exact hc 1 _ rfl,by rw [← add_field _ _ 2 (by omega)];exact hc 2 _ rfl,by rw [← add_field _ _ 3 (by omega)];exact hc 3 _ rfl,l3,g3⟩
end Go.Proofs.YtfdbbpnmnogddaaGreatDoor.Pr
