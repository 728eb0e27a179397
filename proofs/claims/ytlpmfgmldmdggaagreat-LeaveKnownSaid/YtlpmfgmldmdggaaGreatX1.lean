/-
  The examples of the document, reckoned. No condition.
-/
import Derived.Test.YtlpmfgmldmdggaaGreatR4
import Derived.Test.YtlpmfgmldmdggaaGreatT1
open Go Go.RM
namespace Go.Proofs.YtlpmfgmldmdggaaGreat
set_option maxRecDepth 1000000
noncomputable def nM:XE:=⟨16,[.agg #[.slice (some ⟨0,0,none⟩) 2 4,.slice (some ⟨1,0,none⟩) 4 6,.int .i64 2]],[[.string ⟨#[109,97,116,101]⟩,.int .i64 100,.int .i64 500,.int .i64 250,.int .i64 500,.string ⟨#[104,97,110,100]⟩,.int .i64 33,.int .i64 500,.int .i64 0,.int .i64 250],[.string ⟨#[97,109,101,115]⟩,.int .i64 0,.int .i64 2000,.bool false,.string ⟨#[98,101,108,108]⟩,.int .i64 0,.int .i64 500,.bool true,.string ⟨#[99,111,108,101]⟩,.int .i64 1,.int .i64 3000,.bool false,.string ⟨#[100,117,110,110]⟩,.int .i64 1,.int .i64 3000,.bool false]],.tuple #[.int .i64 0,.int .i64 0,.int .i64 0],[]⟩
theorem jz:cx TT nM:=eu gA b7 (tab:=[]) (fun e he=>nomatch he) 1000 (by kernel_rfl)
end Go.Proofs.YtlpmfgmldmdggaaGreat
open Go Go.RM
namespace Go.Proofs.YtlpmfgmldmdggaaGreat
set_option maxRecDepth 1000000
noncomputable def zn:XE:=⟨20,[.agg #[.slice (some ⟨0,0,none⟩) 2 4,.slice (some ⟨1,0,none⟩) 4 6,.int .i64 2],.slice (some ⟨2,0,none⟩) 4 6,.int .i64 3],[[.string ⟨#[109,97,116,101]⟩,.int .i64 100,.int .i64 500,.int .i64 250,.int .i64 500,.string ⟨#[104,97,110,100]⟩,.int .i64 33,.int .i64 500,.int .i64 0,.int .i64 250],[.string ⟨#[97,109,101,115]⟩,.int .i64 0,.int .i64 2000,.bool false,.string ⟨#[98,101,108,108]⟩,.int .i64 0,.int .i64 500,.bool true,.string ⟨#[99,111,108,101]⟩,.int .i64 1,.int .i64 3000,.bool false,.string ⟨#[100,117,110,110]⟩,.int .i64 1,.int .i64 3000,.bool false],[.int .i64 1,.int .i64 1,.int .i64 2,.int .i64 0,.int .i64 3,.int .i64 5,.int .i64 0,.int .i64 1,.int .i64 4,.int .i64 3,.int .i64 3,.int .i64 0,.int .i64 6,.int .i64 2,.int .i64 2,.int .i64 0]],.tuple #[.slice (some ⟨3,0,none⟩) 4 6,.int .i64 0],[[.int .i64 1,.int .i64 3500,.int .i64 3,.int .i64 0,.int .i64 0,.int .i64 0,.int .i64 (-2500),.int .i64 0,.int .i64 3,.int .i64 0,.int .i64 1,.int .i64 1250,.int .i64 1,.int .i64 2,.int .i64 0,.int .i64 0,.int .i64 3750,.int .i64 3,.int .i64 0,.int .i64 0]]⟩
theorem zq:cx TT zn:=eu gA b7 (tab:=[nM]) (List.forall_mem_cons.2 ⟨jz,fun _ h=>nomatch h⟩) 1000 (by kernel_rfl)
end Go.Proofs.YtlpmfgmldmdggaaGreat
open Go Go.RM
namespace Go.Proofs.YtlpmfgmldmdggaaGreat
set_option maxRecDepth 1000000
noncomputable def zu:XE:=⟨23,[.agg #[.slice (some ⟨0,0,none⟩) 2 4,.slice (some ⟨1,0,none⟩) 4 6,.int .i64 2],.slice (some ⟨2,0,none⟩) 4 6,.int .i64 0],[[.string ⟨#[109,97,116,101]⟩,.int .i64 100,.int .i64 500,.int .i64 250,.int .i64 500,.string ⟨#[104,97,110,100]⟩,.int .i64 33,.int .i64 500,.int .i64 0,.int .i64 250],[.string ⟨#[97,109,101,115]⟩,.int .i64 0,.int .i64 2000,.bool false,.string ⟨#[98,101,108,108]⟩,.int .i64 0,.int .i64 500,.bool true,.string ⟨#[99,111,108,101]⟩,.int .i64 1,.int .i64 3000,.bool false,.string ⟨#[100,117,110,110]⟩,.int .i64 1,.int .i64 3000,.bool false],[.int .i64 1,.int .i64 1,.int .i64 2,.int .i64 0,.int .i64 3,.int .i64 5,.int .i64 0,.int .i64 1,.int .i64 4,.int .i64 3,.int .i64 3,.int .i64 0,.int .i64 6,.int .i64 2,.int .i64 2,.int .i64 0]],.tuple #[.slice (some ⟨3,0,none⟩) 3 5,.int .i64 0],[[.int .i64 2,.int .i64 3,.int .i64 0]]⟩
theorem zw:cx TT zu:=eu gA b7 (tab:=[nM]) (List.forall_mem_cons.2 ⟨jz,fun _ h=>nomatch h⟩) 1000 (by kernel_rfl)
end Go.Proofs.YtlpmfgmldmdggaaGreat
open Go Go.RM
namespace Go.Proofs.YtlpmfgmldmdggaaGreat
set_option maxRecDepth 1000000
noncomputable def zx:XE:=⟨27,[.agg #[.slice (some ⟨0,0,none⟩) 2 4,.slice (some ⟨1,0,none⟩) 4 6,.int .i64 2],.slice (some ⟨2,0,none⟩) 4 6,.int .i64 0,.int .i64 7],[[.string ⟨#[109,97,116,101]⟩,.int .i64 100,.int .i64 500,.int .i64 250,.int .i64 500,.string ⟨#[104,97,110,100]⟩,.int .i64 33,.int .i64 500,.int .i64 0,.int .i64 250],[.string ⟨#[97,109,101,115]⟩,.int .i64 0,.int .i64 2000,.bool false,.string ⟨#[98,101,108,108]⟩,.int .i64 0,.int .i64 500,.bool true,.string ⟨#[99,111,108,101]⟩,.int .i64 1,.int .i64 3000,.bool false,.string ⟨#[100,117,110,110]⟩,.int .i64 1,.int .i64 3000,.bool false],[.int .i64 1,.int .i64 1,.int .i64 2,.int .i64 0,.int .i64 3,.int .i64 5,.int .i64 0,.int .i64 1,.int .i64 4,.int .i64 3,.int .i64 3,.int .i64 0,.int .i64 6,.int .i64 2,.int .i64 2,.int .i64 0]],.tuple #[.slice (some ⟨3,0,none⟩) 4 6,.int .i64 0],[[.int .i64 500,.int .i64 550,.int .i64 148,.int .i64 132]]⟩
theorem zy:cx TT zx:=eu gA b7 (tab:=[nM]) (List.forall_mem_cons.2 ⟨jz,fun _ h=>nomatch h⟩) 1000 (by kernel_rfl)
end Go.Proofs.YtlpmfgmldmdggaaGreat
open Go Go.RM
namespace Go.Proofs.YtlpmfgmldmdggaaGreat
set_option maxRecDepth 1000000
noncomputable def zA:XE:=⟨18,[.agg #[.slice (some ⟨0,0,none⟩) 2 4,.slice (some ⟨1,0,none⟩) 4 6,.int .i64 2],.slice (some ⟨2,0,none⟩) 2 4],[[.string ⟨#[109,97,116,101]⟩,.int .i64 100,.int .i64 500,.int .i64 250,.int .i64 500,.string ⟨#[104,97,110,100]⟩,.int .i64 33,.int .i64 500,.int .i64 0,.int .i64 250],[.string ⟨#[97,109,101,115]⟩,.int .i64 0,.int .i64 2000,.bool false,.string ⟨#[98,101,108,108]⟩,.int .i64 0,.int .i64 500,.bool true,.string ⟨#[99,111,108,101]⟩,.int .i64 1,.int .i64 3000,.bool false,.string ⟨#[100,117,110,110]⟩,.int .i64 1,.int .i64 3000,.bool false],[.int .i64 1,.int .i64 1,.int .i64 2,.int .i64 0,.int .i64 1,.int .i64 1,.int .i64 0,.int .i64 0]],.tuple #[.int .i64 1,.int .i64 8],[]⟩
theorem zB:cx TT zA:=eu gA b7 (tab:=[nM]) (List.forall_mem_cons.2 ⟨jz,fun _ h=>nomatch h⟩) 1000 (by kernel_rfl)
end Go.Proofs.YtlpmfgmldmdggaaGreat
open Go Go.RM
namespace Go.Proofs.YtlpmfgmldmdggaaGreat
set_option maxRecDepth 1000000
noncomputable def zC:XE:=⟨31,[.agg #[.slice (some ⟨0,0,none⟩) 2 4,.slice (some ⟨1,0,none⟩) 4 6,.int .i64 2],.agg #[.int .i64 2,.int .i64 10,.int .i64 1],.slice (some ⟨4,0,none⟩) 2 4],[[.string ⟨#[109,97,116,101]⟩,.int .i64 100,.int .i64 500,.int .i64 250,.int .i64 500,.string ⟨#[104,97,110,100]⟩,.int .i64 33,.int .i64 500,.int .i64 0,.int .i64 250],[.string ⟨#[97,109,101,115]⟩,.int .i64 0,.int .i64 2000,.bool false,.string ⟨#[98,101,108,108]⟩,.int .i64 0,.int .i64 500,.bool true,.string ⟨#[99,111,108,101]⟩,.int .i64 1,.int .i64 3000,.bool false,.string ⟨#[100,117,110,110]⟩,.int .i64 1,.int .i64 3000,.bool false],[.int .i64 2],[.int .i64 3],[.slice (some ⟨2,0,none⟩) 1 3,.slice (some ⟨3,0,none⟩) 1 3]],.tuple #[.slice (some ⟨5,0,none⟩) 4 6,.int .i64 0],[[.int .i64 12000,.int .i64 10500,.int .i64 (-4500),.int .i64 (-4500)]]⟩
theorem zD:cx TT zC:=eu gA b7 (tab:=[nM]) (List.forall_mem_cons.2 ⟨jz,fun _ h=>nomatch h⟩) 1000 (by kernel_rfl)
end Go.Proofs.YtlpmfgmldmdggaaGreat
open Go Go.RM
namespace Go.Proofs.YtlpmfgmldmdggaaGreat
set_option maxRecDepth 1000000
noncomputable def zE:XE:=⟨36,[.agg #[.slice (some ⟨0,0,none⟩) 2 4,.slice (some ⟨1,0,none⟩) 4 6,.int .i64 2],.agg #[.int .i64 2,.int .i64 10,.int .i64 1]],[[.string ⟨#[109,97,116,101]⟩,.int .i64 100,.int .i64 500,.int .i64 250,.int .i64 500,.string ⟨#[104,97,110,100]⟩,.int .i64 33,.int .i64 500,.int .i64 0,.int .i64 250],[.string ⟨#[97,109,101,115]⟩,.int .i64 0,.int .i64 2000,.bool false,.string ⟨#[98,101,108,108]⟩,.int .i64 0,.int .i64 500,.bool true,.string ⟨#[99,111,108,101]⟩,.int .i64 1,.int .i64 3000,.bool false,.string ⟨#[100,117,110,110]⟩,.int .i64 1,.int .i64 3000,.bool false]],.tuple #[.int .i64 8000,.int .i64 0],[]⟩
theorem zF:cx TT zE:=eu gA b7 (tab:=[nM]) (List.forall_mem_cons.2 ⟨jz,fun _ h=>nomatch h⟩) 1000 (by kernel_rfl)
end Go.Proofs.YtlpmfgmldmdggaaGreat
open Go Go.RM
namespace Go.Proofs.YtlpmfgmldmdggaaGreat
set_option maxRecDepth 1000000
noncomputable def zG:XE:=⟨26,[],[],.bool true,[]⟩
theorem zH:cx TT zG:=eu gA b7 (tab:=[nM,zn,zu,zx,zA,zC,zE]) (List.forall_mem_cons.2 ⟨jz,List.forall_mem_cons.2 ⟨zq,List.forall_mem_cons.2 ⟨zw,List.forall_mem_cons.2 ⟨zy,List.forall_mem_cons.2 ⟨zB,List.forall_mem_cons.2 ⟨zD,List.forall_mem_cons.2 ⟨zF,fun _ h=>nomatch h⟩⟩⟩⟩⟩⟩⟩) 1000 (by kernel_rfl)
end Go.Proofs.YtlpmfgmldmdggaaGreat
open Go Go.RM
namespace Go.Proofs.YtlpmfgmldmdggaaGreat
set_option maxRecDepth 1000000
noncomputable def zI:XE:=⟨20,[.agg #[.slice (some ⟨0,0,none⟩) 2 4,.slice (some ⟨1,0,none⟩) 4 6,.int .i64 2],.slice (some ⟨2,0,none⟩) 4 6,.int .i64 7],[[.string ⟨#[109,97,116,101]⟩,.int .i64 100,.int .i64 500,.int .i64 250,.int .i64 500,.string ⟨#[104,97,110,100]⟩,.int .i64 33,.int .i64 500,.int .i64 0,.int .i64 250],[.string ⟨#[97,109,101,115]⟩,.int .i64 0,.int .i64 2000,.bool false,.string ⟨#[98,101,108,108]⟩,.int .i64 0,.int .i64 500,.bool true,.string ⟨#[99,111,108,101]⟩,.int .i64 1,.int .i64 3000,.bool false,.string ⟨#[100,117,110,110]⟩,.int .i64 1,.int .i64 3000,.bool false],[.int .i64 1,.int .i64 1,.int .i64 2,.int .i64 0,.int .i64 3,.int .i64 5,.int .i64 0,.int .i64 1,.int .i64 4,.int .i64 3,.int .i64 3,.int .i64 0,.int .i64 6,.int .i64 2,.int .i64 2,.int .i64 0]],.tuple #[.slice (some ⟨3,0,none⟩) 4 6,.int .i64 0],[[.int .i64 1,.int .i64 (-500),.int .i64 3,.int .i64 4,.int .i64 0,.int .i64 0,.int .i64 (-500),.int .i64 4,.int .i64 3,.int .i64 0,.int .i64 0,.int .i64 (-1500),.int .i64 2,.int .i64 5,.int .i64 0,.int .i64 2,.int .i64 4000,.int .i64 4,.int .i64 0,.int .i64 3]]⟩
theorem zJ:cx TT zI:=eu gA b7 (tab:=[nM]) (List.forall_mem_cons.2 ⟨jz,fun _ h=>nomatch h⟩) 1000 (by kernel_rfl)
end Go.Proofs.YtlpmfgmldmdggaaGreat
open Go Go.RM
namespace Go.Proofs.YtlpmfgmldmdggaaGreat
set_option maxRecDepth 1000000
noncomputable def zK:XE:=⟨23,[.agg #[.slice (some ⟨0,0,none⟩) 2 4,.slice (some ⟨1,0,none⟩) 4 6,.int .i64 2],.slice (some ⟨2,0,none⟩) 4 6,.int .i64 3],[[.string ⟨#[109,97,116,101]⟩,.int .i64 100,.int .i64 500,.int .i64 250,.int .i64 500,.string ⟨#[104,97,110,100]⟩,.int .i64 33,.int .i64 500,.int .i64 0,.int .i64 250],[.string ⟨#[97,109,101,115]⟩,.int .i64 0,.int .i64 2000,.bool false,.string ⟨#[98,101,108,108]⟩,.int .i64 0,.int .i64 500,.bool true,.string ⟨#[99,111,108,101]⟩,.int .i64 1,.int .i64 3000,.bool false,.string ⟨#[100,117,110,110]⟩,.int .i64 1,.int .i64 3000,.bool false],[.int .i64 1,.int .i64 1,.int .i64 2,.int .i64 0,.int .i64 3,.int .i64 5,.int .i64 0,.int .i64 1,.int .i64 4,.int .i64 3,.int .i64 3,.int .i64 0,.int .i64 6,.int .i64 2,.int .i64 2,.int .i64 0]],.tuple #[.slice (some ⟨3,0,none⟩) 1 3,.int .i64 0],[[.int .i64 3]]⟩
theorem zL:cx TT zK:=eu gA b7 (tab:=[nM]) (List.forall_mem_cons.2 ⟨jz,fun _ h=>nomatch h⟩) 1000 (by kernel_rfl)
end Go.Proofs.YtlpmfgmldmdggaaGreat
open Go Go.RM
namespace Go.Proofs.YtlpmfgmldmdggaaGreat
set_option maxRecDepth 1000000
noncomputable def zM:XE:=⟨27,[.agg #[.slice (some ⟨0,0,none⟩) 2 4,.slice (some ⟨1,0,none⟩) 4 6,.int .i64 2],.slice (some ⟨2,0,none⟩) 4 6,.int .i64 0,.int .i64 1],[[.string ⟨#[109,97,116,101]⟩,.int .i64 100,.int .i64 500,.int .i64 250,.int .i64 500,.string ⟨#[104,97,110,100]⟩,.int .i64 33,.int .i64 500,.int .i64 0,.int .i64 250],[.string ⟨#[97,109,101,115]⟩,.int .i64 0,.int .i64 2000,.bool false,.string ⟨#[98,101,108,108]⟩,.int .i64 0,.int .i64 500,.bool true,.string ⟨#[99,111,108,101]⟩,.int .i64 1,.int .i64 3000,.bool false,.string ⟨#[100,117,110,110]⟩,.int .i64 1,.int .i64 3000,.bool false],[.int .i64 1,.int .i64 1,.int .i64 2,.int .i64 0,.int .i64 3,.int .i64 5,.int .i64 0,.int .i64 1,.int .i64 4,.int .i64 3,.int .i64 3,.int .i64 0,.int .i64 6,.int .i64 2,.int .i64 2,.int .i64 0]],.tuple #[.slice (some ⟨3,0,none⟩) 4 6,.int .i64 0],[[.int .i64 100,.int .i64 50,.int .i64 33,.int .i64 33]]⟩
theorem zN:cx TT zM:=eu gA b7 (tab:=[nM]) (List.forall_mem_cons.2 ⟨jz,fun _ h=>nomatch h⟩) 1000 (by kernel_rfl)
end Go.Proofs.YtlpmfgmldmdggaaGreat
open Go Go.RM
namespace Go.Proofs.YtlpmfgmldmdggaaGreat
set_option maxRecDepth 1000000
noncomputable def zO:XE:=⟨18,[.agg #[.slice (some ⟨0,0,none⟩) 2 4,.slice (some ⟨1,0,none⟩) 4 6,.int .i64 2],.slice (some ⟨2,0,none⟩) 5 7],[[.string ⟨#[109,97,116,101]⟩,.int .i64 100,.int .i64 500,.int .i64 250,.int .i64 500,.string ⟨#[104,97,110,100]⟩,.int .i64 33,.int .i64 500,.int .i64 0,.int .i64 250],[.string ⟨#[97,109,101,115]⟩,.int .i64 0,.int .i64 2000,.bool false,.string ⟨#[98,101,108,108]⟩,.int .i64 0,.int .i64 500,.bool true,.string ⟨#[99,111,108,101]⟩,.int .i64 1,.int .i64 3000,.bool false,.string ⟨#[100,117,110,110]⟩,.int .i64 1,.int .i64 3000,.bool false],[.int .i64 1,.int .i64 1,.int .i64 2,.int .i64 0,.int .i64 3,.int .i64 5,.int .i64 0,.int .i64 1,.int .i64 4,.int .i64 3,.int .i64 3,.int .i64 0,.int .i64 6,.int .i64 2,.int .i64 2,.int .i64 0,.int .i64 3,.int .i64 1,.int .i64 1,.int .i64 0]],.tuple #[.int .i64 4,.int .i64 7],[]⟩
theorem zP:cx TT zO:=eu gA b7 (tab:=[nM]) (List.forall_mem_cons.2 ⟨jz,fun _ h=>nomatch h⟩) 1000 (by kernel_rfl)
end Go.Proofs.YtlpmfgmldmdggaaGreat
open Go Go.RM
namespace Go.Proofs.YtlpmfgmldmdggaaGreat
set_option maxRecDepth 1000000
noncomputable def yS:XE:=⟨7,[],[],.bool true,[]⟩
theorem zQ:cx TT yS:=eu gA b7 (tab:=[zG,zI,zK,zM,zO]) (List.forall_mem_cons.2 ⟨zH,List.forall_mem_cons.2 ⟨zJ,List.forall_mem_cons.2 ⟨zL,List.forall_mem_cons.2 ⟨zN,List.forall_mem_cons.2 ⟨zP,fun _ h=>nomatch h⟩⟩⟩⟩⟩) 1000 (by kernel_rfl)
end Go.Proofs.YtlpmfgmldmdggaaGreat
