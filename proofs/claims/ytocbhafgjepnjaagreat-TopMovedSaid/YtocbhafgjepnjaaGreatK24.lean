/- Texts of the row's proof. Conditions: none. -/
import Derived.Shelf.SlSortCmp.NoneTotal
import Derived.Test.YtocbhafgjepnjaaGreatK02
namespace Go.Proofs.YtocbhafgjepnjaaGreat
set_option maxRecDepth 100000
set_option maxHeartbeats 8000000
section
open Go.Shelf
def xJ:Go.Shelf.Ren:=⟨fun|6=>55|15=>109|14=>108|28=>159|29=>160|20=>151|21=>152|22=>153|23=>154|24=>155|25=>156|26=>157|27=>158|46=>178|47=>179|48=>180|49=>181|50=>182|57=>188|n=>n,fun|22=>44|24=>106|25=>140|3=>3|39=>143|0=>0|53=>215|55=>273|4=>4|46=>266|45=>265|50=>145|5=>5|9=>9|66=>288|70=>163|76=>298|77=>224|n=>n,fun|n=>n⟩
theorem Cu:Go.Proofs.SlLaysF0.n6 Tryz.prog xJ:={
    mixed:=by kernel_rfl
    f6:=⟨Tryz.f55.name,by decide,Tryz.func55.trans (congrArg some (by kernel_rfl))⟩
    f14:=⟨Tryz.f108.name,by decide,Tryz.func108.trans (congrArg some (by kernel_rfl))⟩
    f15:=Tryz.func109.trans (congrArg some (by kernel_rfl))
    f20:=⟨Tryz.f151.name,by decide,Tryz.func151.trans (congrArg some (by kernel_rfl))⟩
    f21:=⟨Tryz.f152.name,by decide,Tryz.func152.trans (congrArg some (by kernel_rfl))⟩
    f22:=⟨Tryz.f153.name,by decide,Tryz.func153.trans (congrArg some (by kernel_rfl))⟩
    f23:=⟨Tryz.f154.name,by decide,Tryz.func154.trans (congrArg some (by kernel_rfl))⟩
    f24:=⟨Tryz.f155.name,by decide,Tryz.func155.trans (congrArg some (by kernel_rfl))⟩
    f25:=⟨Tryz.f156.name,by decide,Tryz.func156.trans (congrArg some (by kernel_rfl))⟩
    f26:=⟨Tryz.f157.name,by decide,Tryz.func157.trans (congrArg some (by kernel_rfl))⟩
    f27:=⟨Tryz.f158.name,by decide,Tryz.func158.trans (congrArg some (by kernel_rfl))⟩
    f28:=Tryz.func159.trans (congrArg some (by kernel_rfl))
    f29:=Tryz.func160.trans (congrArg some (by kernel_rfl))
    f46:=⟨Tryz.f178.name,by decide,Tryz.func178.trans (congrArg some (by kernel_rfl))⟩
    f47:=Tryz.func179.trans (congrArg some (by kernel_rfl))
    f48:=Tryz.func180.trans (congrArg some (by kernel_rfl))
    f49:=⟨Tryz.f181.name,by decide,Tryz.func181.trans (congrArg some (by kernel_rfl))⟩
    f50:=⟨Tryz.f182.name,by decide,Tryz.func182.trans (congrArg some (by kernel_rfl))⟩
    f57:=⟨Tryz.f188.name,by decide,Tryz.func188.trans (congrArg some (by kernel_rfl))⟩
    t0:=Tryz.underlying0
    a0:=Tryz.isAgg0
    z0:=Tryz.sizeOf0
    v0:=Tryz.zeroValue0
    t3:=Tryz.underlying3
    a3:=Tryz.isAgg3
    z3:=Tryz.sizeOf3
    v3:=Tryz.zeroValue3
    t4:=Tryz.underlying4
    a4:=Tryz.isAgg4
    z4:=Tryz.sizeOf4
    v4:=Tryz.zeroValue4
    t5:=Tryz.underlying5
    a5:=Tryz.isAgg5
    z5:=Tryz.sizeOf5
    v5:=Tryz.zeroValue5
    t9:=Tryz.underlying9
    a9:=Tryz.isAgg9
    z9:=Tryz.sizeOf9
    v9:=Tryz.zeroValue9
    t22:=Tryz.underlying44
    a22:=Tryz.isAgg44
    z22:=Tryz.sizeOf44
    v22:=Tryz.zeroValue44
    t25:=Tryz.underlying140
    a25:=Tryz.isAgg140
    z25:=Tryz.sizeOf140
    v25:=Tryz.zeroValue140
    t39:=Tryz.underlying143
    a39:=Tryz.isAgg143
    z39:=Tryz.sizeOf143
    v39:=Tryz.zeroValue143
    t45:=Tryz.underlying265
    a45:=Tryz.isAgg265
    z45:=Tryz.sizeOf265
    v45:=Tryz.zeroValue265
    t46:=Tryz.underlying266
    a46:=Tryz.isAgg266
    z46:=Tryz.sizeOf266
    v46:=Tryz.zeroValue266
    t50:=Tryz.underlying145
    a50:=Tryz.isAgg145
    z50:=Tryz.sizeOf145
    v50:=Tryz.zeroValue145
    t53:=Tryz.underlying215
    a53:=Tryz.isAgg215
    z53:=Tryz.sizeOf215
    v53:=Tryz.zeroValue215
    t55:=Tryz.underlying273
    a55:=Tryz.isAgg273
    z55:=Tryz.sizeOf273
    v55:=Tryz.zeroValue273
    t66:=Tryz.underlying288
    a66:=Tryz.isAgg288
    z66:=Tryz.sizeOf288
    v66:=Tryz.zeroValue288
    t70:=Tryz.underlying163
    a70:=Tryz.isAgg163
    z70:=Tryz.sizeOf163
    v70:=Tryz.zeroValue163
    t76:=Tryz.underlying298
    a76:=Tryz.isAgg298
    z76:=Tryz.sizeOf298
    v76:=Tryz.zeroValue298
    t77:=Tryz.underlying224
    a77:=Tryz.isAgg224
    z77:=Tryz.sizeOf224
    v77:=Tryz.zeroValue224 }
end
end Go.Proofs.YtocbhafgjepnjaaGreat
