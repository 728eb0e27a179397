/-
  The examples of the document, reckoned. No condition.
-/
import Derived.Test.YtlpmfgmldmdggaaGreatT1
open Go Go.RM
noncomputable section
namespace Go.Proofs.YtlpmfgmldmdggaaGreat
set_option maxRecDepth 1000000
def AM:XE:=⟨16,[.agg #[.slice (some ⟨0,0,none⟩) 2 4,.slice (some ⟨1,0,none⟩) 4 6,.int .i64 2]],[[.string ⟨#[109,97,116,101]⟩,.int .i64 100,.int .i64 500,.int .i64 250,.int .i64 500,.string ⟨#[104,97,110,100]⟩,.int .i64 33,.int .i64 500,.int .i64 0,.int .i64 250],[.string ⟨#[97,109,101,115]⟩,.int .i64 0,.int .i64 2000,.bool false,.string ⟨#[98,101,108,108]⟩,.int .i64 0,.int .i64 500,.bool true,.string ⟨#[99,111,108,101]⟩,.int .i64 1,.int .i64 3000,.bool false,.string ⟨#[100,117,110,110]⟩,.int .i64 1,.int .i64 3000,.bool false]],.tuple #[.int .i64 0,.int .i64 0,.int .i64 0],[]⟩
theorem vC:fR TT AM:=nJ qH gU (tab:=[]) qq0 1000 (by kernel_rfl)
end Go.Proofs.YtlpmfgmldmdggaaGreat
open Go Go.RM
namespace Go.Proofs.YtlpmfgmldmdggaaGreat
set_option maxRecDepth 1000000
def KP:XE:=⟨20,[.agg #[.slice (some ⟨0,0,none⟩) 2 4,.slice (some ⟨1,0,none⟩) 4 6,.int .i64 2],.slice (some ⟨2,0,none⟩) 4 6,.int .i64 3],[[.string ⟨#[109,97,116,101]⟩,.int .i64 100,.int .i64 500,.int .i64 250,.int .i64 500,.string ⟨#[104,97,110,100]⟩,.int .i64 33,.int .i64 500,.int .i64 0,.int .i64 250],[.string ⟨#[97,109,101,115]⟩,.int .i64 0,.int .i64 2000,.bool false,.string ⟨#[98,101,108,108]⟩,.int .i64 0,.int .i64 500,.bool true,.string ⟨#[99,111,108,101]⟩,.int .i64 1,.int .i64 3000,.bool false,.string ⟨#[100,117,110,110]⟩,.int .i64 1,.int .i64 3000,.bool false],[.int .i64 1,.int .i64 1,.int .i64 2,.int .i64 0,.int .i64 3,.int .i64 5,.int .i64 0,.int .i64 1,.int .i64 4,.int .i64 3,.int .i64 3,.int .i64 0,.int .i64 6,.int .i64 2,.int .i64 2,.int .i64 0]],.tuple #[.slice (some ⟨3,0,none⟩) 4 6,.int .i64 0],[[.int .i64 1,.int .i64 3500,.int .i64 3,.int .i64 0,.int .i64 0,.int .i64 0,.int .i64 (-2500),.int .i64 0,.int .i64 3,.int .i64 0,.int .i64 1,.int .i64 1250,.int .i64 1,.int .i64 2,.int .i64 0,.int .i64 0,.int .i64 3750,.int .i64 3,.int .i64 0,.int .i64 0]]⟩
theorem KQ:fR TT KP:=nJ qH gU (tab:=[AM]) (qq8 ⟨vC,qq0⟩) 1000 (by kernel_rfl)
end Go.Proofs.YtlpmfgmldmdggaaGreat
open Go Go.RM
namespace Go.Proofs.YtlpmfgmldmdggaaGreat
set_option maxRecDepth 1000000
def KR:XE:=⟨23,[.agg #[.slice (some ⟨0,0,none⟩) 2 4,.slice (some ⟨1,0,none⟩) 4 6,.int .i64 2],.slice (some ⟨2,0,none⟩) 4 6,.int .i64 0],[[.string ⟨#[109,97,116,101]⟩,.int .i64 100,.int .i64 500,.int .i64 250,.int .i64 500,.string ⟨#[104,97,110,100]⟩,.int .i64 33,.int .i64 500,.int .i64 0,.int .i64 250],[.string ⟨#[97,109,101,115]⟩,.int .i64 0,.int .i64 2000,.bool false,.string ⟨#[98,101,108,108]⟩,.int .i64 0,.int .i64 500,.bool true,.string ⟨#[99,111,108,101]⟩,.int .i64 1,.int .i64 3000,.bool false,.string ⟨#[100,117,110,110]⟩,.int .i64 1,.int .i64 3000,.bool false],[.int .i64 1,.int .i64 1,.int .i64 2,.int .i64 0,.int .i64 3,.int .i64 5,.int .i64 0,.int .i64 1,.int .i64 4,.int .i64 3,.int .i64 3,.int .i64 0,.int .i64 6,.int .i64 2,.int .i64 2,.int .i64 0]],.tuple #[.slice (some ⟨3,0,none⟩) 3 5,.int .i64 0],[[.int .i64 2,.int .i64 3,.int .i64 0]]⟩
theorem KT:fR TT KR:=nJ qH gU (tab:=[AM]) (qq8 ⟨vC,qq0⟩) 1000 (by kernel_rfl)
end Go.Proofs.YtlpmfgmldmdggaaGreat
open Go Go.RM
namespace Go.Proofs.YtlpmfgmldmdggaaGreat
set_option maxRecDepth 1000000
def KU:XE:=⟨27,[.agg #[.slice (some ⟨0,0,none⟩) 2 4,.slice (some ⟨1,0,none⟩) 4 6,.int .i64 2],.slice (some ⟨2,0,none⟩) 4 6,.int .i64 0,.int .i64 7],[[.string ⟨#[109,97,116,101]⟩,.int .i64 100,.int .i64 500,.int .i64 250,.int .i64 500,.string ⟨#[104,97,110,100]⟩,.int .i64 33,.int .i64 500,.int .i64 0,.int .i64 250],[.string ⟨#[97,109,101,115]⟩,.int .i64 0,.int .i64 2000,.bool false,.string ⟨#[98,101,108,108]⟩,.int .i64 0,.int .i64 500,.bool true,.string ⟨#[99,111,108,101]⟩,.int .i64 1,.int .i64 3000,.bool false,.string ⟨#[100,117,110,110]⟩,.int .i64 1,.int .i64 3000,.bool false],[.int .i64 1,.int .i64 1,.int .i64 2,.int .i64 0,.int .i64 3,.int .i64 5,.int .i64 0,.int .i64 1,.int .i64 4,.int .i64 3,.int .i64 3,.int .i64 0,.int .i64 6,.int .i64 2,.int .i64 2,.int .i64 0]],.tuple #[.slice (some ⟨3,0,none⟩) 4 6,.int .i64 0],[[.int .i64 500,.int .i64 550,.int .i64 148,.int .i64 132]]⟩
theorem KV:fR TT KU:=nJ qH gU (tab:=[AM]) (qq8 ⟨vC,qq0⟩) 1000 (by kernel_rfl)
end Go.Proofs.YtlpmfgmldmdggaaGreat
open Go Go.RM
namespace Go.Proofs.YtlpmfgmldmdggaaGreat
set_option maxRecDepth 1000000
def KW:XE:=⟨18,[.agg #[.slice (some ⟨0,0,none⟩) 2 4,.slice (some ⟨1,0,none⟩) 4 6,.int .i64 2],.slice (some ⟨2,0,none⟩) 2 4],[[.string ⟨#[109,97,116,101]⟩,.int .i64 100,.int .i64 500,.int .i64 250,.int .i64 500,.string ⟨#[104,97,110,100]⟩,.int .i64 33,.int .i64 500,.int .i64 0,.int .i64 250],[.string ⟨#[97,109,101,115]⟩,.int .i64 0,.int .i64 2000,.bool false,.string ⟨#[98,101,108,108]⟩,.int .i64 0,.int .i64 500,.bool true,.string ⟨#[99,111,108,101]⟩,.int .i64 1,.int .i64 3000,.bool false,.string ⟨#[100,117,110,110]⟩,.int .i64 1,.int .i64 3000,.bool false],[.int .i64 1,.int .i64 1,.int .i64 2,.int .i64 0,.int .i64 1,.int .i64 1,.int .i64 0,.int .i64 0]],.tuple #[.int .i64 1,.int .i64 8],[]⟩
theorem KX:fR TT KW:=nJ qH gU (tab:=[AM]) (qq8 ⟨vC,qq0⟩) 1000 (by kernel_rfl)
end Go.Proofs.YtlpmfgmldmdggaaGreat
open Go Go.RM
namespace Go.Proofs.YtlpmfgmldmdggaaGreat
set_option maxRecDepth 1000000
def KY:XE:=⟨31,[.agg #[.slice (some ⟨0,0,none⟩) 2 4,.slice (some ⟨1,0,none⟩) 4 6,.int .i64 2],.agg #[.int .i64 2,.int .i64 10,.int .i64 1],.slice (some ⟨4,0,none⟩) 2 4],[[.string ⟨#[109,97,116,101]⟩,.int .i64 100,.int .i64 500,.int .i64 250,.int .i64 500,.string ⟨#[104,97,110,100]⟩,.int .i64 33,.int .i64 500,.int .i64 0,.int .i64 250],[.string ⟨#[97,109,101,115]⟩,.int .i64 0,.int .i64 2000,.bool false,.string ⟨#[98,101,108,108]⟩,.int .i64 0,.int .i64 500,.bool true,.string ⟨#[99,111,108,101]⟩,.int .i64 1,.int .i64 3000,.bool false,.string ⟨#[100,117,110,110]⟩,.int .i64 1,.int .i64 3000,.bool false],[.int .i64 2],[.int .i64 3],[.slice (some ⟨2,0,none⟩) 1 3,.slice (some ⟨3,0,none⟩) 1 3]],.tuple #[.slice (some ⟨5,0,none⟩) 4 6,.int .i64 0],[[.int .i64 12000,.int .i64 10500,.int .i64 (-4500),.int .i64 (-4500)]]⟩
theorem KZ:fR TT KY:=nJ qH gU (tab:=[AM]) (qq8 ⟨vC,qq0⟩) 1000 (by kernel_rfl)
end Go.Proofs.YtlpmfgmldmdggaaGreat
open Go Go.RM
namespace Go.Proofs.YtlpmfgmldmdggaaGreat
set_option maxRecDepth 1000000
def K0:XE:=⟨36,[.agg #[.slice (some ⟨0,0,none⟩) 2 4,.slice (some ⟨1,0,none⟩) 4 6,.int .i64 2],.agg #[.int .i64 2,.int .i64 10,.int .i64 1]],[[.string ⟨#[109,97,116,101]⟩,.int .i64 100,.int .i64 500,.int .i64 250,.int .i64 500,.string ⟨#[104,97,110,100]⟩,.int .i64 33,.int .i64 500,.int .i64 0,.int .i64 250],[.string ⟨#[97,109,101,115]⟩,.int .i64 0,.int .i64 2000,.bool false,.string ⟨#[98,101,108,108]⟩,.int .i64 0,.int .i64 500,.bool true,.string ⟨#[99,111,108,101]⟩,.int .i64 1,.int .i64 3000,.bool false,.string ⟨#[100,117,110,110]⟩,.int .i64 1,.int .i64 3000,.bool false]],.tuple #[.int .i64 8000,.int .i64 0],[]⟩
theorem K1:fR TT K0:=nJ qH gU (tab:=[AM]) (qq8 ⟨vC,qq0⟩) 1000 (by kernel_rfl)
end Go.Proofs.YtlpmfgmldmdggaaGreat
open Go Go.RM
namespace Go.Proofs.YtlpmfgmldmdggaaGreat
set_option maxRecDepth 1000000
def LN:XE:=⟨26,[],[],.bool true,[]⟩
theorem K3:fR TT LN:=nJ qH gU (tab:=[AM,KP,KR,KU,KW,KY,K0]) (qq8 ⟨vC,qq8 ⟨KQ,qq8 ⟨KT,qq8 ⟨KV,qq8 ⟨KX,qq8 ⟨KZ,qq8 ⟨K1,qq0⟩⟩⟩⟩⟩⟩⟩) 1000 (by kernel_rfl)
