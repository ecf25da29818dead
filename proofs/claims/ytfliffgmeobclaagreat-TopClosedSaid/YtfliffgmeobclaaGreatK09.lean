/- Texts of the row's proof. Conditions: none. -/
import Derived.Deep.AppendLies
import Derived.Deep.RegionLaw
import Derived.Test.YtfliffgmeobclaaGreatK07
namespace Go.Proofs.YtfliffgmeobclaaGreat
set_option maxRecDepth 100000
set_option maxHeartbeats 8000000
section
open Go.RowKit
theorem zB:(Tryz.prog.info? 148).map (fun i=>(i.zero,i.size,i.bytes))=some (some (.agg #[.int .i64 0,.int .i64 0,.int .i64 0,.int .i64 0,.int .i64 0]),5,40):=by kernel_rfl
theorem j5 (X:List Lf):∀ c∈X.map Lf.cells,c.length=6:=by
 exact Q29
theorem mz (X:List Rq):∀ c∈X.map Rq.cells,c.length=5:=by
 exact Q29
theorem qm {w:World} {B B' e sz n:Nat} {v:Value} {cs:List Value} (h:w.ownsRow B e sz v n cs) (hB:B'≤B):w.ownsRow B' e sz v n cs:=by
 obtain ⟨h1,h2|⟨g,cap',cur,h3,h4,h5,h6⟩⟩:=h
 ·exact ⟨h1,Or.inl h2⟩
 ·exact ⟨h1,Or.inr ⟨g,cap',cur,h3,Iq hB h4,h5,h6⟩⟩
end
end Go.Proofs.YtfliffgmeobclaaGreat
