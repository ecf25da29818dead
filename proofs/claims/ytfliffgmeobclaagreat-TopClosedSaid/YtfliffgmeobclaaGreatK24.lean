/- Texts of the row's proof. Conditions: none. -/
import Derived.Shelf.SlSortCmp.NoneTotal
import Derived.Test.YtfliffgmeobclaaGreatK02
namespace Go.Proofs.YtfliffgmeobclaaGreat
set_option maxRecDepth 100000
set_option maxHeartbeats 8000000
section
open Go.Shelf
def xK:Go.Shelf.Ren:=⟨fun|6=>116|15=>151|14=>150|28=>175|29=>176|20=>167|21=>168|22=>169|23=>170|24=>171|25=>172|26=>173|27=>174|46=>181|47=>182|48=>183|49=>184|50=>185|57=>188|n=>n,fun|22=>53|24=>151|25=>240|3=>3|39=>277|0=>0|53=>297|55=>299|4=>4|46=>291|45=>290|50=>271|5=>5|9=>9|66=>301|70=>137|76=>308|77=>199|n=>n,fun|n=>n⟩
theorem Ck:Go.Proofs.SlLaysF0.n6 Tryz.prog xK:={
    mixed:=by kernel_rfl
    f6:=⟨Tryz.f116.name,by decide,Tryz.func116.trans (congrArg some (by kernel_rfl))⟩
    f14:=⟨Tryz.f150.name,by decide,Tryz.func150.trans (congrArg some (by kernel_rfl))⟩
    f15:=Tryz.func151.trans (congrArg some (by kernel_rfl))
    f20:=⟨Tryz.f167.name,by decide,Tryz.func167.trans (congrArg some (by kernel_rfl))⟩
    f21:=⟨Tryz.f168.name,by decide,Tryz.func168.trans (congrArg some (by kernel_rfl))⟩
    f22:=⟨Tryz.f169.name,by decide,Tryz.func169.trans (congrArg some (by kernel_rfl))⟩
    f23:=⟨Tryz.f170.name,by decide,Tryz.func170.trans (congrArg some (by kernel_rfl))⟩
    f24:=⟨Tryz.f171.name,by decide,Tryz.func171.trans (congrArg some (by kernel_rfl))⟩
    f25:=⟨Tryz.f172.name,by decide,Tryz.func172.trans (congrArg some (by kernel_rfl))⟩
    f26:=⟨Tryz.f173.name,by decide,Tryz.func173.trans (congrArg some (by kernel_rfl))⟩
    f27:=⟨Tryz.f174.name,by decide,Tryz.func174.trans (congrArg some (by kernel_rfl))⟩
    f28:=Tryz.func175.trans (congrArg some (by kernel_rfl))
    f29:=Tryz.func176.trans (congrArg some (by kernel_rfl))
    f46:=⟨Tryz.f181.name,by decide,Tryz.func181.trans (congrArg some (by kernel_rfl))⟩
    f47:=Tryz.func182.trans (congrArg some (by kernel_rfl))
    f48:=Tryz.func183.trans (congrArg some (by kernel_rfl))
    f49:=⟨Tryz.f184.name,by decide,Tryz.func184.trans (congrArg some (by kernel_rfl))⟩
    f50:=⟨Tryz.f185.name,by decide,Tryz.func185.trans (congrArg some (by kernel_rfl))⟩
    f57:=⟨Tryz.f188.name,by decide,Tryz.func188.trans (congrArg some (by kernel_rfl))⟩
    t0:=Tryz.underlying0
    a0:=Tryz.isAgg0
    z0:=Tryz.sizeOf0
    v0:=Tryz.zeroValue0
    t3:=Tryz.underlying3
    a3:=Tryz.isAgg3
    z3:=Tryz.sizeOf3
    v3:=Tryz.zeroValue3
    t4:=Tryz.underlying4
    a4:=Tryz.isAgg4
    z4:=Tryz.sizeOf4
    v4:=Tryz.zeroValue4
    t5:=Tryz.underlying5
    a5:=Tryz.isAgg5
    z5:=Tryz.sizeOf5
    v5:=Tryz.zeroValue5
    t9:=Tryz.underlying9
    a9:=Tryz.isAgg9
    z9:=Tryz.sizeOf9
    v9:=Tryz.zeroValue9
    t22:=Tryz.underlying53
    a22:=Tryz.isAgg53
    z22:=Tryz.sizeOf53
    v22:=Tryz.zeroValue53
    t25:=Tryz.underlying240
    a25:=Tryz.isAgg240
    z25:=Tryz.sizeOf240
    v25:=Tryz.zeroValue240
    t39:=Tryz.underlying277
    a39:=Tryz.isAgg277
    z39:=Tryz.sizeOf277
    v39:=Tryz.zeroValue277
    t45:=Tryz.underlying290
    a45:=Tryz.isAgg290
    z45:=Tryz.sizeOf290
    v45:=Tryz.zeroValue290
    t46:=Tryz.underlying291
    a46:=Tryz.isAgg291
    z46:=Tryz.sizeOf291
    v46:=Tryz.zeroValue291
    t50:=Tryz.underlying271
    a50:=Tryz.isAgg271
    z50:=Tryz.sizeOf271
    v50:=Tryz.zeroValue271
    t53:=Tryz.underlying297
    a53:=Tryz.isAgg297
    z53:=Tryz.sizeOf297
    v53:=Tryz.zeroValue297
    t55:=Tryz.underlying299
    a55:=Tryz.isAgg299
    z55:=Tryz.sizeOf299
    v55:=Tryz.zeroValue299
    t66:=Tryz.underlying301
    a66:=Tryz.isAgg301
    z66:=Tryz.sizeOf301
    v66:=Tryz.zeroValue301
    t70:=Tryz.underlying137
    a70:=Tryz.isAgg137
    z70:=Tryz.sizeOf137
    v70:=Tryz.zeroValue137
    t76:=Tryz.underlying308
    a76:=Tryz.isAgg308
    z76:=Tryz.sizeOf308
    v76:=Tryz.zeroValue308
    t77:=Tryz.underlying199
    a77:=Tryz.isAgg199
    z77:=Tryz.sizeOf199
    v77:=Tryz.zeroValue199 }
end
end Go.Proofs.YtfliffgmeobclaaGreat
