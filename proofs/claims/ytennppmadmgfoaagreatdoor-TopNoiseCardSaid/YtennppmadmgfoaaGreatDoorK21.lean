/- Texts of the row's proof. Conditions: none. -/
import Derived.Shelf.SlSortCmp.NoneTotal
import Derived.Test.YtennppmadmgfoaaGreatDoorK02
namespace Go.Proofs.YtennppmadmgfoaaGreatDoor
open Proofs.Tryz
set_option maxRecDepth 100000
set_option maxHeartbeats 8000000
section
open Go.Shelf
def zp:Go.Shelf.Ren:=⟨fun|6=>120|15=>155|14=>154|28=>179|29=>180|20=>171|21=>172|22=>173|23=>174|24=>175|25=>176|26=>177|27=>178|46=>185|47=>186|48=>187|49=>188|50=>189|57=>192|n=>n,fun|22=>46|24=>179|25=>276|3=>3|39=>113|0=>0|53=>331|55=>333|4=>4|46=>325|45=>324|50=>306|5=>5|9=>9|66=>334|70=>89|76=>341|77=>235|n=>n,fun|n=>n⟩
theorem Ek:Go.Proofs.SlLaysF0.n6 prog zp:={
    mixed:=by kernel_rfl
    f6:=⟨Tryz.f120.name,by decide,func120.trans (congrArg some (by kernel_rfl))⟩
    f14:=⟨Tryz.f154.name,by decide,func154.trans (congrArg some (by kernel_rfl))⟩
    f15:=func155.trans (congrArg some (by kernel_rfl))
    f20:=⟨Tryz.f171.name,by decide,func171.trans (congrArg some (by kernel_rfl))⟩
    f21:=⟨Tryz.f172.name,by decide,func172.trans (congrArg some (by kernel_rfl))⟩
    f22:=⟨Tryz.f173.name,by decide,func173.trans (congrArg some (by kernel_rfl))⟩
    f23:=⟨Tryz.f174.name,by decide,func174.trans (congrArg some (by kernel_rfl))⟩
    f24:=⟨Tryz.f175.name,by decide,func175.trans (congrArg some (by kernel_rfl))⟩
    f25:=⟨Tryz.f176.name,by decide,func176.trans (congrArg some (by kernel_rfl))⟩
    f26:=⟨Tryz.f177.name,by decide,func177.trans (congrArg some (by kernel_rfl))⟩
    f27:=⟨Tryz.f178.name,by decide,func178.trans (congrArg some (by kernel_rfl))⟩
    f28:=func179.trans (congrArg some (by kernel_rfl))
    f29:=func180.trans (congrArg some (by kernel_rfl))
    f46:=⟨Tryz.f185.name,by decide,func185.trans (congrArg some (by kernel_rfl))⟩
    f47:=func186.trans (congrArg some (by kernel_rfl))
    f48:=func187.trans (congrArg some (by kernel_rfl))
    f49:=⟨Tryz.f188.name,by decide,func188.trans (congrArg some (by kernel_rfl))⟩
    f50:=⟨Tryz.f189.name,by decide,func189.trans (congrArg some (by kernel_rfl))⟩
    f57:=⟨Tryz.f192.name,by decide,func192.trans (congrArg some (by kernel_rfl))⟩
    t0:=underlying0
    a0:=isAgg0
    z0:=sizeOf0
    v0:=zeroValue0
    t3:=underlying3
    a3:=isAgg3
    z3:=sizeOf3
    v3:=zeroValue3
    t4:=underlying4
    a4:=isAgg4
    z4:=sizeOf4
    v4:=zeroValue4
    t5:=underlying5
    a5:=isAgg5
    z5:=sizeOf5
    v5:=zeroValue5
    t9:=underlying9
    a9:=isAgg9
    z9:=sizeOf9
    v9:=zeroValue9
    t22:=underlying46
    a22:=isAgg46
    z22:=sizeOf46
    v22:=zeroValue46
    t25:=underlying276
    a25:=isAgg276
    z25:=sizeOf276
    v25:=zeroValue276
    t39:=underlying113
    a39:=isAgg113
    z39:=sizeOf113
    v39:=zeroValue113
    t45:=underlying324
    a45:=isAgg324
    z45:=sizeOf324
    v45:=zeroValue324
    t46:=underlying325
    a46:=isAgg325
    z46:=sizeOf325
    v46:=zeroValue325
    t50:=underlying306
    a50:=isAgg306
    z50:=sizeOf306
    v50:=zeroValue306
    t53:=underlying331
    a53:=isAgg331
    z53:=sizeOf331
    v53:=zeroValue331
    t55:=underlying333
    a55:=isAgg333
    z55:=sizeOf333
    v55:=zeroValue333
    t66:=underlying334
    a66:=isAgg334
    z66:=sizeOf334
    v66:=zeroValue334
    t70:=underlying89
    a70:=isAgg89
    z70:=sizeOf89
    v70:=zeroValue89
    t76:=underlying341
    a76:=isAgg341
    z76:=sizeOf341
    v76:=zeroValue341
    t77:=underlying235
    a77:=isAgg235
    z77:=sizeOf235
    v77:=zeroValue235 }
end
end Go.Proofs.YtennppmadmgfoaaGreatDoor
