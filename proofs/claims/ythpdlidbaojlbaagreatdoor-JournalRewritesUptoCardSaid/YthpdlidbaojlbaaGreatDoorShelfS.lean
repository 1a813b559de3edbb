/- The shelf's contracts. -/
import Derived.Shelf.SlSortCmp.WholeK
import Derived.Ground.SlsfProg
import Derived.Shelf.Small.Utf8
import Derived.Shelf.Small.Bits
import Derived.Shelf.Small.Strs
import Derived.Shelf.Sort.Plain
import Derived.Shelf.Slices.In.SortNone
import Derived.Test.YthpdlidbaojlbaaGreatDoorProg
namespace Go.Proofs
open Go.Shelf
open Tryz
theorem shfS {x:Option Func} {a b:Func} (h:x=some a) (e:a=b):x=some b:=h.trans (congrArg some e)
def Tryz.lays190_ren:Go.Shelf.Ren:=⟨fun|190=>372|125=>346|258=>375|128=>216|129=>201|302=>376|303=>377|304=>378|305=>379|306=>380|307=>381|308=>382|309=>383|310=>384|333=>385|329=>358|330=>359|334=>386|335=>387|336=>347|344=>388|n=>n,fun|31=>32|9=>9|3=>3|46=>204|0=>0|51=>255|53=>47|4=>4|183=>428|182=>427|131=>129|5=>5|218=>433|222=>436|228=>438|229=>439|n=>n,fun|n=>n⟩
theorem Tryz.lays190:Go.Proofs.Lays.n190 Tryz.prog Tryz.lays190_ren:={
 mixed:=by kernel_rfl
 f125:=shfS func346 (by kernel_rfl)
 f128:=shfS func216 (by kernel_rfl)
 f129:=shfS func201 (by kernel_rfl)
 f190:=shfS func372 (by kernel_rfl)
 f258:=shfS func375 (by kernel_rfl)
 f302:=shfS func376 (by kernel_rfl)
 f303:=shfS func377 (by kernel_rfl)
 f304:=shfS func378 (by kernel_rfl)
 f305:=shfS func379 (by kernel_rfl)
 f306:=shfS func380 (by kernel_rfl)
 f307:=shfS func381 (by kernel_rfl)
 f308:=shfS func382 (by kernel_rfl)
 f309:=shfS func383 (by kernel_rfl)
 f310:=shfS func384 (by kernel_rfl)
 f329:=shfS func358 (by kernel_rfl)
 f330:=shfS func359 (by kernel_rfl)
 f333:=shfS func385 (by kernel_rfl)
 f334:=shfS func386 (by kernel_rfl)
 f335:=shfS func387 (by kernel_rfl)
 f336:=shfS func347 (by kernel_rfl)
 f344:=shfS func388 (by kernel_rfl)
 t0:=underlying0
 a0:=isAgg0
 z0:=sizeOf0
 v0:=zeroValue0
 t3:=underlying3
 a3:=isAgg3
 z3:=sizeOf3
 v3:=zeroValue3
 t4:=underlying4
 a4:=isAgg4
 z4:=sizeOf4
 v4:=zeroValue4
 t5:=underlying5
 a5:=isAgg5
 z5:=sizeOf5
 v5:=zeroValue5
 t9:=underlying9
 a9:=isAgg9
 z9:=sizeOf9
 v9:=zeroValue9
 t31:=underlying32
 a31:=isAgg32
 z31:=sizeOf32
 v31:=zeroValue32
 t46:=underlying204
 a46:=isAgg204
 z46:=sizeOf204
 v46:=zeroValue204
 t51:=underlying255
 a51:=isAgg255
 z51:=sizeOf255
 v51:=zeroValue255
 t53:=underlying47
 a53:=isAgg47
 z53:=sizeOf47
 v53:=zeroValue47
 t131:=underlying129
 a131:=isAgg129
 z131:=sizeOf129
 v131:=zeroValue129
 t182:=underlying427
 a182:=isAgg427
 z182:=sizeOf427
 v182:=zeroValue427
 t183:=underlying428
 a183:=isAgg428
 z183:=sizeOf428
 v183:=zeroValue428
 t218:=underlying433
 a218:=isAgg433
 z218:=sizeOf433
 v218:=zeroValue433
 t222:=underlying436
 a222:=isAgg436
 z222:=sizeOf436
 v222:=zeroValue436
 t228:=underlying438
 a228:=isAgg438
 z228:=sizeOf438
 v228:=zeroValue438
 t229:=underlying439
 a229:=isAgg439
 z229:=sizeOf439
 v229:=zeroValue439 }
open Go.Sort Go.RowKit in
theorem Tryz.slices_Sort_string (blk off cap:Nat) (ss:List (List UInt8)) (w:World) (hH:Holds encStr w blk off ss.toArray) (hblk:blk<w.heap.size) (hsz:ss.length<4611686018427387904) :
  Calls Tryz.prog 372 #[.slice (some ⟨blk,off,none⟩) ss.length cap] w fun e w' =>
   e=.returned (.tuple #[])∧∃ n os,w'=grow (putRow encStr (Sort.ahead w n) blk off (ss.mergeSort fun x y=>decide (x≤y)).toArray) os:=Any.slices_Sort_string Tryz.lays190 blk off cap ss w hH hblk hsz
def Tryz.sortPair_ren:Go.Shelf.Ren:=⟨fun|6=>340|15=>346|14=>345|28=>216|29=>201|20=>349|21=>350|22=>351|23=>352|24=>353|25=>354|26=>355|27=>356|46=>357|47=>358|48=>359|49=>360|50=>361|57=>362|n=>n,fun|22=>33|24=>51|25=>420|3=>3|39=>204|0=>0|53=>255|55=>47|4=>4|46=>428|45=>427|50=>129|5=>5|9=>9|66=>433|70=>436|76=>438|77=>439|n=>n,fun|n=>n⟩
theorem Tryz.sortPair:Go.Proofs.SlLaysF0.n6 Tryz.prog Tryz.sortPair_ren:={
 mixed:=by kernel_rfl
 f6:=⟨Tryz.f340.name,by decide,Tryz.func340.trans (congrArg some (by kernel_rfl))⟩
 f14:=⟨Tryz.f345.name,by decide,Tryz.func345.trans (congrArg some (by kernel_rfl))⟩
 f15:=shfS func346 (by kernel_rfl)
 f20:=⟨Tryz.f349.name,by decide,Tryz.func349.trans (congrArg some (by kernel_rfl))⟩
 f21:=⟨Tryz.f350.name,by decide,Tryz.func350.trans (congrArg some (by kernel_rfl))⟩
 f22:=⟨Tryz.f351.name,by decide,Tryz.func351.trans (congrArg some (by kernel_rfl))⟩
 f23:=⟨Tryz.f352.name,by decide,Tryz.func352.trans (congrArg some (by kernel_rfl))⟩
 f24:=⟨Tryz.f353.name,by decide,Tryz.func353.trans (congrArg some (by kernel_rfl))⟩
 f25:=⟨Tryz.f354.name,by decide,Tryz.func354.trans (congrArg some (by kernel_rfl))⟩
 f26:=⟨Tryz.f355.name,by decide,Tryz.func355.trans (congrArg some (by kernel_rfl))⟩
 f27:=⟨Tryz.f356.name,by decide,Tryz.func356.trans (congrArg some (by kernel_rfl))⟩
 f28:=shfS func216 (by kernel_rfl)
 f29:=shfS func201 (by kernel_rfl)
 f46:=⟨Tryz.f357.name,by decide,Tryz.func357.trans (congrArg some (by kernel_rfl))⟩
 f47:=shfS func358 (by kernel_rfl)
 f48:=shfS func359 (by kernel_rfl)
 f49:=⟨Tryz.f360.name,by decide,Tryz.func360.trans (congrArg some (by kernel_rfl))⟩
 f50:=⟨Tryz.f361.name,by decide,Tryz.func361.trans (congrArg some (by kernel_rfl))⟩
 f57:=⟨Tryz.f362.name,by decide,Tryz.func362.trans (congrArg some (by kernel_rfl))⟩
 t0:=underlying0
 a0:=isAgg0
 z0:=sizeOf0
 v0:=zeroValue0
 t3:=underlying3
 a3:=isAgg3
 z3:=sizeOf3
 v3:=zeroValue3
 t4:=underlying4
 a4:=isAgg4
 z4:=sizeOf4
 v4:=zeroValue4
 t5:=underlying5
 a5:=isAgg5
 z5:=sizeOf5
 v5:=zeroValue5
 t9:=underlying9
 a9:=isAgg9
 z9:=sizeOf9
 v9:=zeroValue9
 t22:=underlying33
 a22:=isAgg33
 z22:=sizeOf33
 v22:=zeroValue33
 t25:=underlying420
 a25:=isAgg420
 z25:=sizeOf420
 v25:=zeroValue420
 t39:=underlying204
 a39:=isAgg204
 z39:=sizeOf204
 v39:=zeroValue204
 t45:=underlying427
 a45:=isAgg427
 z45:=sizeOf427
 v45:=zeroValue427
 t46:=underlying428
 a46:=isAgg428
 z46:=sizeOf428
 v46:=zeroValue428
 t50:=underlying129
 a50:=isAgg129
 z50:=sizeOf129
 v50:=zeroValue129
 t53:=underlying255
 a53:=isAgg255
 z53:=sizeOf255
 v53:=zeroValue255
 t55:=underlying47
 a55:=isAgg47
 z55:=sizeOf47
 v55:=zeroValue47
 t66:=underlying433
 a66:=isAgg433
 z66:=sizeOf433
 v66:=zeroValue433
 t70:=underlying436
 a70:=isAgg436
 z70:=sizeOf436
 v70:=zeroValue436
 t76:=underlying438
 a76:=isAgg438
 z76:=sizeOf438
 v76:=zeroValue438
 t77:=underlying439
 a77:=isAgg439
 z77:=sizeOf439
 v77:=zeroValue439 }
end Go.Proofs
