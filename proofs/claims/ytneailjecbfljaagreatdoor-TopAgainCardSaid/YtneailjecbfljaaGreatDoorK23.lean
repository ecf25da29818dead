/- Texts of the row's proof. Conditions: none. -/
import Derived.Shelf.SlSortCmp.NoneTotal
import Derived.Test.YtneailjecbfljaaGreatDoorK02
namespace Go.Proofs.YtneailjecbfljaaGreatDoor
set_option maxRecDepth 100000
set_option maxHeartbeats 8000000
section
open Go.Shelf
def xJ:Go.Shelf.Ren:=⟨fun|6=>117|15=>152|14=>151|28=>176|29=>177|20=>168|21=>169|22=>170|23=>171|24=>172|25=>173|26=>174|27=>175|46=>182|47=>183|48=>184|49=>185|50=>186|57=>189|n=>n,fun|22=>45|24=>171|25=>268|3=>3|39=>304|0=>0|53=>324|55=>326|4=>4|46=>318|45=>317|50=>298|5=>5|9=>9|66=>328|70=>155|76=>335|77=>227|n=>n,fun|n=>n⟩
theorem Ci:Go.Proofs.SlLaysF0.n6 Tryz.prog xJ:={
    mixed:=by kernel_rfl
    f6:=⟨Tryz.f117.name,by decide,Tryz.func117.trans (congrArg some (by kernel_rfl))⟩
    f14:=⟨Tryz.f151.name,by decide,Tryz.func151.trans (congrArg some (by kernel_rfl))⟩
    f15:=Tryz.func152.trans (congrArg some (by kernel_rfl))
    f20:=⟨Tryz.f168.name,by decide,Tryz.func168.trans (congrArg some (by kernel_rfl))⟩
    f21:=⟨Tryz.f169.name,by decide,Tryz.func169.trans (congrArg some (by kernel_rfl))⟩
    f22:=⟨Tryz.f170.name,by decide,Tryz.func170.trans (congrArg some (by kernel_rfl))⟩
    f23:=⟨Tryz.f171.name,by decide,Tryz.func171.trans (congrArg some (by kernel_rfl))⟩
    f24:=⟨Tryz.f172.name,by decide,Tryz.func172.trans (congrArg some (by kernel_rfl))⟩
    f25:=⟨Tryz.f173.name,by decide,Tryz.func173.trans (congrArg some (by kernel_rfl))⟩
    f26:=⟨Tryz.f174.name,by decide,Tryz.func174.trans (congrArg some (by kernel_rfl))⟩
    f27:=⟨Tryz.f175.name,by decide,Tryz.func175.trans (congrArg some (by kernel_rfl))⟩
    f28:=Tryz.func176.trans (congrArg some (by kernel_rfl))
    f29:=Tryz.func177.trans (congrArg some (by kernel_rfl))
    f46:=⟨Tryz.f182.name,by decide,Tryz.func182.trans (congrArg some (by kernel_rfl))⟩
    f47:=Tryz.func183.trans (congrArg some (by kernel_rfl))
    f48:=Tryz.func184.trans (congrArg some (by kernel_rfl))
    f49:=⟨Tryz.f185.name,by decide,Tryz.func185.trans (congrArg some (by kernel_rfl))⟩
    f50:=⟨Tryz.f186.name,by decide,Tryz.func186.trans (congrArg some (by kernel_rfl))⟩
    f57:=⟨Tryz.f189.name,by decide,Tryz.func189.trans (congrArg some (by kernel_rfl))⟩
    t0:=Tryz.underlying0
    a0:=Tryz.isAgg0
    z0:=Tryz.sizeOf0
    v0:=Tryz.zeroValue0
    t3:=Tryz.underlying3
    a3:=Tryz.isAgg3
    z3:=Tryz.sizeOf3
    v3:=Tryz.zeroValue3
    t4:=Tryz.underlying4
    a4:=Tryz.isAgg4
    z4:=Tryz.sizeOf4
    v4:=Tryz.zeroValue4
    t5:=Tryz.underlying5
    a5:=Tryz.isAgg5
    z5:=Tryz.sizeOf5
    v5:=Tryz.zeroValue5
    t9:=Tryz.underlying9
    a9:=Tryz.isAgg9
    z9:=Tryz.sizeOf9
    v9:=Tryz.zeroValue9
    t22:=Tryz.underlying45
    a22:=Tryz.isAgg45
    z22:=Tryz.sizeOf45
    v22:=Tryz.zeroValue45
    t25:=Tryz.underlying268
    a25:=Tryz.isAgg268
    z25:=Tryz.sizeOf268
    v25:=Tryz.zeroValue268
    t39:=Tryz.underlying304
    a39:=Tryz.isAgg304
    z39:=Tryz.sizeOf304
    v39:=Tryz.zeroValue304
    t45:=Tryz.underlying317
    a45:=Tryz.isAgg317
    z45:=Tryz.sizeOf317
    v45:=Tryz.zeroValue317
    t46:=Tryz.underlying318
    a46:=Tryz.isAgg318
    z46:=Tryz.sizeOf318
    v46:=Tryz.zeroValue318
    t50:=Tryz.underlying298
    a50:=Tryz.isAgg298
    z50:=Tryz.sizeOf298
    v50:=Tryz.zeroValue298
    t53:=Tryz.underlying324
    a53:=Tryz.isAgg324
    z53:=Tryz.sizeOf324
    v53:=Tryz.zeroValue324
    t55:=Tryz.underlying326
    a55:=Tryz.isAgg326
    z55:=Tryz.sizeOf326
    v55:=Tryz.zeroValue326
    t66:=Tryz.underlying328
    a66:=Tryz.isAgg328
    z66:=Tryz.sizeOf328
    v66:=Tryz.zeroValue328
    t70:=Tryz.underlying155
    a70:=Tryz.isAgg155
    z70:=Tryz.sizeOf155
    v70:=Tryz.zeroValue155
    t76:=Tryz.underlying335
    a76:=Tryz.isAgg335
    z76:=Tryz.sizeOf335
    v76:=Tryz.zeroValue335
    t77:=Tryz.underlying227
    a77:=Tryz.isAgg227
    z77:=Tryz.sizeOf227
    v77:=Tryz.zeroValue227 }
end
end Go.Proofs.YtneailjecbfljaaGreatDoor
