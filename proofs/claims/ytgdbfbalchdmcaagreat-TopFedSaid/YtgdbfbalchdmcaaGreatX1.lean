/-
  The examples of the document, reckoned. No condition.
-/
import Derived.Test.YtgdbfbalchdmcaaGreatR4
import Derived.Test.YtgdbfbalchdmcaaGreatT1
open Go Go.RM
namespace Go.Proofs.YtgdbfbalchdmcaaGreat
set_option maxRecDepth 1000000
noncomputable def DP:XE:=⟨71,[.agg #[.slice (some ⟨0,0,none⟩) 2 4,.slice (some ⟨1,0,none⟩) 4 6,.int .i64 2]],[[.string ⟨#[109,97,116,101]⟩,.int .i64 100,.int .i64 500,.int .i64 250,.int .i64 500,.string ⟨#[104,97,110,100]⟩,.int .i64 33,.int .i64 500,.int .i64 0,.int .i64 250],[.string ⟨#[97,109,101,115]⟩,.int .i64 0,.int .i64 2000,.bool false,.string ⟨#[98,101,108,108]⟩,.int .i64 0,.int .i64 500,.bool true,.string ⟨#[99,111,108,101]⟩,.int .i64 1,.int .i64 3000,.bool false,.string ⟨#[100,117,110,110]⟩,.int .i64 1,.int .i64 3000,.bool false]],.tuple #[.int .i64 0,.int .i64 0,.int .i64 0],[]⟩
theorem yN:dJ TT DP:=gj jg dj (tab:=[]) (fun e he=>nomatch he) 1000 (by kernel_rfl)
end Go.Proofs.YtgdbfbalchdmcaaGreat
open Go Go.RM
namespace Go.Proofs.YtgdbfbalchdmcaaGreat
set_option maxRecDepth 1000000
noncomputable def NN:XE:=⟨8,[.agg #[.slice (some ⟨0,0,none⟩) 2 4,.slice (some ⟨1,0,none⟩) 4 6,.int .i64 2],.slice (some ⟨2,0,none⟩) 4 6,.int .i64 3],[[.string ⟨#[109,97,116,101]⟩,.int .i64 100,.int .i64 500,.int .i64 250,.int .i64 500,.string ⟨#[104,97,110,100]⟩,.int .i64 33,.int .i64 500,.int .i64 0,.int .i64 250],[.string ⟨#[97,109,101,115]⟩,.int .i64 0,.int .i64 2000,.bool false,.string ⟨#[98,101,108,108]⟩,.int .i64 0,.int .i64 500,.bool true,.string ⟨#[99,111,108,101]⟩,.int .i64 1,.int .i64 3000,.bool false,.string ⟨#[100,117,110,110]⟩,.int .i64 1,.int .i64 3000,.bool false],[.int .i64 1,.int .i64 1,.int .i64 2,.int .i64 0,.int .i64 3,.int .i64 5,.int .i64 0,.int .i64 1,.int .i64 4,.int .i64 3,.int .i64 3,.int .i64 0,.int .i64 6,.int .i64 2,.int .i64 2,.int .i64 0]],.tuple #[.slice (some ⟨3,0,none⟩) 4 6,.int .i64 0],[[.int .i64 1,.int .i64 3500,.int .i64 3,.int .i64 0,.int .i64 0,.int .i64 0,.int .i64 (-2500),.int .i64 0,.int .i64 3,.int .i64 0,.int .i64 1,.int .i64 1250,.int .i64 1,.int .i64 2,.int .i64 0,.int .i64 0,.int .i64 3750,.int .i64 3,.int .i64 0,.int .i64 0]]⟩
theorem NO:dJ TT NN:=gj jg dj (tab:=[DP]) (List.forall_mem_cons.2 ⟨yN,fun _ h=>nomatch h⟩) 1000 (by kernel_rfl)
end Go.Proofs.YtgdbfbalchdmcaaGreat
open Go Go.RM
namespace Go.Proofs.YtgdbfbalchdmcaaGreat
set_option maxRecDepth 1000000
noncomputable def NP:XE:=⟨31,[.agg #[.slice (some ⟨0,0,none⟩) 2 4,.slice (some ⟨1,0,none⟩) 4 6,.int .i64 2],.slice (some ⟨2,0,none⟩) 4 6,.int .i64 0],[[.string ⟨#[109,97,116,101]⟩,.int .i64 100,.int .i64 500,.int .i64 250,.int .i64 500,.string ⟨#[104,97,110,100]⟩,.int .i64 33,.int .i64 500,.int .i64 0,.int .i64 250],[.string ⟨#[97,109,101,115]⟩,.int .i64 0,.int .i64 2000,.bool false,.string ⟨#[98,101,108,108]⟩,.int .i64 0,.int .i64 500,.bool true,.string ⟨#[99,111,108,101]⟩,.int .i64 1,.int .i64 3000,.bool false,.string ⟨#[100,117,110,110]⟩,.int .i64 1,.int .i64 3000,.bool false],[.int .i64 1,.int .i64 1,.int .i64 2,.int .i64 0,.int .i64 3,.int .i64 5,.int .i64 0,.int .i64 1,.int .i64 4,.int .i64 3,.int .i64 3,.int .i64 0,.int .i64 6,.int .i64 2,.int .i64 2,.int .i64 0]],.tuple #[.slice (some ⟨3,0,none⟩) 3 5,.int .i64 0],[[.int .i64 2,.int .i64 3,.int .i64 0]]⟩
theorem NQ:dJ TT NP:=gj jg dj (tab:=[DP]) (List.forall_mem_cons.2 ⟨yN,fun _ h=>nomatch h⟩) 1000 (by kernel_rfl)
end Go.Proofs.YtgdbfbalchdmcaaGreat
open Go Go.RM
namespace Go.Proofs.YtgdbfbalchdmcaaGreat
set_option maxRecDepth 1000000
noncomputable def NR:XE:=⟨32,[.agg #[.slice (some ⟨0,0,none⟩) 2 4,.slice (some ⟨1,0,none⟩) 4 6,.int .i64 2],.slice (some ⟨2,0,none⟩) 4 6,.int .i64 0,.int .i64 7],[[.string ⟨#[109,97,116,101]⟩,.int .i64 100,.int .i64 500,.int .i64 250,.int .i64 500,.string ⟨#[104,97,110,100]⟩,.int .i64 33,.int .i64 500,.int .i64 0,.int .i64 250],[.string ⟨#[97,109,101,115]⟩,.int .i64 0,.int .i64 2000,.bool false,.string ⟨#[98,101,108,108]⟩,.int .i64 0,.int .i64 500,.bool true,.string ⟨#[99,111,108,101]⟩,.int .i64 1,.int .i64 3000,.bool false,.string ⟨#[100,117,110,110]⟩,.int .i64 1,.int .i64 3000,.bool false],[.int .i64 1,.int .i64 1,.int .i64 2,.int .i64 0,.int .i64 3,.int .i64 5,.int .i64 0,.int .i64 1,.int .i64 4,.int .i64 3,.int .i64 3,.int .i64 0,.int .i64 6,.int .i64 2,.int .i64 2,.int .i64 0]],.tuple #[.slice (some ⟨3,0,none⟩) 4 6,.int .i64 0],[[.int .i64 500,.int .i64 550,.int .i64 148,.int .i64 132]]⟩
theorem NS:dJ TT NR:=gj jg dj (tab:=[DP]) (List.forall_mem_cons.2 ⟨yN,fun _ h=>nomatch h⟩) 1000 (by kernel_rfl)
end Go.Proofs.YtgdbfbalchdmcaaGreat
open Go Go.RM
namespace Go.Proofs.YtgdbfbalchdmcaaGreat
set_option maxRecDepth 1000000
noncomputable def NT:XE:=⟨33,[.agg #[.slice (some ⟨0,0,none⟩) 2 4,.slice (some ⟨1,0,none⟩) 4 6,.int .i64 2],.slice (some ⟨2,0,none⟩) 2 4],[[.string ⟨#[109,97,116,101]⟩,.int .i64 100,.int .i64 500,.int .i64 250,.int .i64 500,.string ⟨#[104,97,110,100]⟩,.int .i64 33,.int .i64 500,.int .i64 0,.int .i64 250],[.string ⟨#[97,109,101,115]⟩,.int .i64 0,.int .i64 2000,.bool false,.string ⟨#[98,101,108,108]⟩,.int .i64 0,.int .i64 500,.bool true,.string ⟨#[99,111,108,101]⟩,.int .i64 1,.int .i64 3000,.bool false,.string ⟨#[100,117,110,110]⟩,.int .i64 1,.int .i64 3000,.bool false],[.int .i64 1,.int .i64 1,.int .i64 2,.int .i64 0,.int .i64 1,.int .i64 1,.int .i64 0,.int .i64 0]],.tuple #[.int .i64 1,.int .i64 8],[]⟩
theorem NU:dJ TT NT:=gj jg dj (tab:=[DP]) (List.forall_mem_cons.2 ⟨yN,fun _ h=>nomatch h⟩) 1000 (by kernel_rfl)
end Go.Proofs.YtgdbfbalchdmcaaGreat
open Go Go.RM
namespace Go.Proofs.YtgdbfbalchdmcaaGreat
set_option maxRecDepth 1000000
noncomputable def NV:XE:=⟨34,[.agg #[.slice (some ⟨0,0,none⟩) 2 4,.slice (some ⟨1,0,none⟩) 4 6,.int .i64 2],.agg #[.int .i64 2,.int .i64 10,.int .i64 1],.slice (some ⟨4,0,none⟩) 2 4],[[.string ⟨#[109,97,116,101]⟩,.int .i64 100,.int .i64 500,.int .i64 250,.int .i64 500,.string ⟨#[104,97,110,100]⟩,.int .i64 33,.int .i64 500,.int .i64 0,.int .i64 250],[.string ⟨#[97,109,101,115]⟩,.int .i64 0,.int .i64 2000,.bool false,.string ⟨#[98,101,108,108]⟩,.int .i64 0,.int .i64 500,.bool true,.string ⟨#[99,111,108,101]⟩,.int .i64 1,.int .i64 3000,.bool false,.string ⟨#[100,117,110,110]⟩,.int .i64 1,.int .i64 3000,.bool false],[.int .i64 2],[.int .i64 3],[.slice (some ⟨2,0,none⟩) 1 3,.slice (some ⟨3,0,none⟩) 1 3]],.tuple #[.slice (some ⟨5,0,none⟩) 4 6,.int .i64 0],[[.int .i64 12000,.int .i64 10500,.int .i64 (-4500),.int .i64 (-4500)]]⟩
theorem NW:dJ TT NV:=gj jg dj (tab:=[DP]) (List.forall_mem_cons.2 ⟨yN,fun _ h=>nomatch h⟩) 1000 (by kernel_rfl)
end Go.Proofs.YtgdbfbalchdmcaaGreat
open Go Go.RM
namespace Go.Proofs.YtgdbfbalchdmcaaGreat
set_option maxRecDepth 1000000
noncomputable def NX:XE:=⟨37,[.agg #[.slice (some ⟨0,0,none⟩) 2 4,.slice (some ⟨1,0,none⟩) 4 6,.int .i64 2],.agg #[.int .i64 2,.int .i64 10,.int .i64 1]],[[.string ⟨#[109,97,116,101]⟩,.int .i64 100,.int .i64 500,.int .i64 250,.int .i64 500,.string ⟨#[104,97,110,100]⟩,.int .i64 33,.int .i64 500,.int .i64 0,.int .i64 250],[.string ⟨#[97,109,101,115]⟩,.int .i64 0,.int .i64 2000,.bool false,.string ⟨#[98,101,108,108]⟩,.int .i64 0,.int .i64 500,.bool true,.string ⟨#[99,111,108,101]⟩,.int .i64 1,.int .i64 3000,.bool false,.string ⟨#[100,117,110,110]⟩,.int .i64 1,.int .i64 3000,.bool false]],.tuple #[.int .i64 8000,.int .i64 0],[]⟩
theorem NY:dJ TT NX:=gj jg dj (tab:=[DP]) (List.forall_mem_cons.2 ⟨yN,fun _ h=>nomatch h⟩) 1000 (by kernel_rfl)
end Go.Proofs.YtgdbfbalchdmcaaGreat
open Go Go.RM
namespace Go.Proofs.YtgdbfbalchdmcaaGreat
set_option maxRecDepth 1000000
noncomputable def OY:XE:=⟨7,[],[],.bool true,[]⟩
theorem NZ:dJ TT OY:=gj jg dj (tab:=[DP,NN,NP,NR,NT,NV,NX]) (List.forall_mem_cons.2 ⟨yN,List.forall_mem_cons.2 ⟨NO,List.forall_mem_cons.2 ⟨NQ,List.forall_mem_cons.2 ⟨NS,List.forall_mem_cons.2 ⟨NU,List.forall_mem_cons.2 ⟨NW,List.forall_mem_cons.2 ⟨NY,fun _ h=>nomatch h⟩⟩⟩⟩⟩⟩⟩) 1000 (by kernel_rfl)
end Go.Proofs.YtgdbfbalchdmcaaGreat
open Go Go.RM
namespace Go.Proofs.YtgdbfbalchdmcaaGreat.St
set_option maxRecDepth 1000000
noncomputable def Oc:XE:=⟨19,[.agg #[.slice (some ⟨0,0,none⟩) 5 7,.slice (some ⟨1,0,none⟩) 2 4,.slice (some ⟨2,0,none⟩) 1 3],.int .i64 1,.agg #[.int .i64 35,.int .i64 3,.int .i64 0],.int .i64 5],[[.int .i64 3,.int .i64 3,.int .i64 2,.int .i64 2,.int .i64 3],[.string ⟨#[111,105,108]⟩,.int .i64 40,.int .i64 50,.int .i64 0,.int .i64 0,.int .i64 8,.int .i64 10,.int .i64 60,.int .i64 1000,.string ⟨#[119,97,116,101,114]⟩,.int .i64 30,.int .i64 40,.int .i64 2,.int .i64 3,.int .i64 0,.int .i64 0,.int .i64 40,.int .i64 500],[.int .i64 2,.int .i64 1,.int .i64 10]],.tuple #[.slice (some ⟨3,0,none⟩) 6 8,.int .i64 5,.int .i64 0],[[.int .i64 35,.int .i64 26,.int .i64 17,.int .i64 21,.int .i64 15,.int .i64 6]]⟩
theorem Od:dJ TT Oc:=gj jg dj (tab:=[]) (fun e he=>nomatch he) 1000 (by kernel_rfl)
end Go.Proofs.YtgdbfbalchdmcaaGreat.St
open Go Go.RM
namespace Go.Proofs.YtgdbfbalchdmcaaGreat.St
set_option maxRecDepth 1000000
noncomputable def Oe:XE:=⟨21,[.agg #[.slice (some ⟨0,0,none⟩) 5 7,.slice (some ⟨1,0,none⟩) 2 4,.slice (some ⟨2,0,none⟩) 1 3],.slice (some ⟨3,0,none⟩) 1 3,.int .i64 0,.int .i64 0],[[.int .i64 3,.int .i64 3,.int .i64 2,.int .i64 2,.int .i64 3],[.string ⟨#[111,105,108]⟩,.int .i64 40,.int .i64 50,.int .i64 0,.int .i64 0,.int .i64 8,.int .i64 10,.int .i64 60,.int .i64 1000,.string ⟨#[119,97,116,101,114]⟩,.int .i64 30,.int .i64 40,.int .i64 2,.int .i64 3,.int .i64 0,.int .i64 0,.int .i64 40,.int .i64 500],[.int .i64 2,.int .i64 1,.int .i64 10],[.int .i64 2,.int .i64 0,.int .i64 25,.int .i64 28]],.tuple #[.agg #[.int .i64 41,.int .i64 48],.int .i64 0],[]⟩
theorem Of:dJ TT Oe:=gj jg dj (tab:=[]) (fun e he=>nomatch he) 1000 (by kernel_rfl)
end Go.Proofs.YtgdbfbalchdmcaaGreat.St
open Go Go.RM
namespace Go.Proofs.YtgdbfbalchdmcaaGreat.St
set_option maxRecDepth 1000000
noncomputable def Og:XE:=⟨12,[.agg #[.slice (some ⟨0,0,none⟩) 5 7,.slice (some ⟨1,0,none⟩) 2 4,.slice (some ⟨2,0,none⟩) 1 3],.slice none 0 0,.int .i64 0],[[.int .i64 3,.int .i64 3,.int .i64 2,.int .i64 2,.int .i64 3],[.string ⟨#[111,105,108]⟩,.int .i64 40,.int .i64 50,.int .i64 0,.int .i64 0,.int .i64 8,.int .i64 10,.int .i64 60,.int .i64 1000,.string ⟨#[119,97,116,101,114]⟩,.int .i64 30,.int .i64 40,.int .i64 2,.int .i64 3,.int .i64 0,.int .i64 0,.int .i64 40,.int .i64 500],[.int .i64 2,.int .i64 1,.int .i64 10]],.tuple #[.int .i64 4,.int .i64 0],[]⟩
theorem Oh:dJ TT Og:=gj jg dj (tab:=[]) (fun e he=>nomatch he) 1000 (by kernel_rfl)
end Go.Proofs.YtgdbfbalchdmcaaGreat.St
open Go Go.RM
namespace Go.Proofs.YtgdbfbalchdmcaaGreat.St
set_option maxRecDepth 1000000
noncomputable def Oi:XE:=⟨23,[.agg #[.slice (some ⟨0,0,none⟩) 5 7,.slice (some ⟨1,0,none⟩) 2 4,.slice (some ⟨2,0,none⟩) 1 3],.slice (some ⟨3,0,none⟩) 1 3,.int .i64 0],[[.int .i64 3,.int .i64 3,.int .i64 2,.int .i64 2,.int .i64 3],[.string ⟨#[111,105,108]⟩,.int .i64 40,.int .i64 50,.int .i64 0,.int .i64 0,.int .i64 8,.int .i64 10,.int .i64 60,.int .i64 1000,.string ⟨#[119,97,116,101,114]⟩,.int .i64 30,.int .i64 40,.int .i64 2,.int .i64 3,.int .i64 0,.int .i64 0,.int .i64 40,.int .i64 500],[.int .i64 2,.int .i64 1,.int .i64 10],[.int .i64 2,.int .i64 0,.int .i64 25,.int .i64 28]],.tuple #[.agg #[.int .i64 43,.int .i64 0,.int .i64 9],.int .i64 4,.int .i64 0],[]⟩
theorem Oj:dJ TT Oi:=gj jg dj (tab:=[]) (fun e he=>nomatch he) 1000 (by kernel_rfl)
end Go.Proofs.YtgdbfbalchdmcaaGreat.St
open Go Go.RM
namespace Go.Proofs.YtgdbfbalchdmcaaGreat.St
set_option maxRecDepth 1000000
noncomputable def Ol:XE:=⟨24,[.agg #[.slice (some ⟨0,0,none⟩) 5 7,.slice (some ⟨1,0,none⟩) 2 4,.slice (some ⟨2,0,none⟩) 1 3],.slice (some ⟨3,0,none⟩) 1 3,.int .i64 0,.int .i64 3],[[.int .i64 3,.int .i64 3,.int .i64 2,.int .i64 2,.int .i64 3],[.string ⟨#[111,105,108]⟩,.int .i64 40,.int .i64 50,.int .i64 0,.int .i64 0,.int .i64 8,.int .i64 10,.int .i64 60,.int .i64 1000,.string ⟨#[119,97,116,101,114]⟩,.int .i64 30,.int .i64 40,.int .i64 2,.int .i64 3,.int .i64 0,.int .i64 0,.int .i64 40,.int .i64 500],[.int .i64 2,.int .i64 1,.int .i64 10],[.int .i64 2,.int .i64 0,.int .i64 25,.int .i64 28]],.tuple #[.int .i64 5,.int .i64 0],[]⟩
theorem Om:dJ TT Ol:=gj jg dj (tab:=[]) (fun e he=>nomatch he) 1000 (by kernel_rfl)
end Go.Proofs.YtgdbfbalchdmcaaGreat.St
open Go Go.RM
namespace Go.Proofs.YtgdbfbalchdmcaaGreat.St
set_option maxRecDepth 1000000
noncomputable def On:XE:=⟨25,[.agg #[.slice (some ⟨0,0,none⟩) 5 7,.slice (some ⟨1,0,none⟩) 2 4,.slice (some ⟨2,0,none⟩) 1 3],.slice none 0 0,.int .i64 1],[[.int .i64 3,.int .i64 3,.int .i64 2,.int .i64 2,.int .i64 3],[.string ⟨#[111,105,108]⟩,.int .i64 40,.int .i64 50,.int .i64 0,.int .i64 0,.int .i64 8,.int .i64 10,.int .i64 60,.int .i64 1000,.string ⟨#[119,97,116,101,114]⟩,.int .i64 23,.int .i64 23,.int .i64 2,.int .i64 3,.int .i64 0,.int .i64 0,.int .i64 40,.int .i64 500],[.int .i64 2,.int .i64 1,.int .i64 10]],.tuple #[.int .i64 3,.int .i64 0],[]⟩
theorem Oo:dJ TT On:=gj jg dj (tab:=[]) (fun e he=>nomatch he) 1000 (by kernel_rfl)
end Go.Proofs.YtgdbfbalchdmcaaGreat.St
open Go Go.RM
namespace Go.Proofs.YtgdbfbalchdmcaaGreat.St
set_option maxRecDepth 1000000
noncomputable def Oq:XE:=⟨64,[.agg #[.slice (some ⟨0,0,none⟩) 5 7,.slice (some ⟨1,0,none⟩) 2 4,.slice (some ⟨2,0,none⟩) 1 3],.slice (some ⟨3,0,none⟩) 2 4,.int .i64 0],[[.int .i64 3,.int .i64 3,.int .i64 2,.int .i64 2,.int .i64 3],[.string ⟨#[111,105,108]⟩,.int .i64 40,.int .i64 50,.int .i64 0,.int .i64 0,.int .i64 8,.int .i64 10,.int .i64 60,.int .i64 1000,.string ⟨#[119,97,116,101,114]⟩,.int .i64 30,.int .i64 40,.int .i64 2,.int .i64 3,.int .i64 0,.int .i64 0,.int .i64 40,.int .i64 500],[.int .i64 2,.int .i64 1,.int .i64 10],[.int .i64 2,.int .i64 0,.int .i64 25,.int .i64 28,.int .i64 2,.int .i64 0,.int .i64 0,.int .i64 24]],.slice (some ⟨4,0,none⟩) 1 3,[[.int .i64 0]]⟩
theorem Ot:dJ TT Oq:=gj jg dj (tab:=[]) (fun e he=>nomatch he) 1000 (by kernel_rfl)
end Go.Proofs.YtgdbfbalchdmcaaGreat.St
open Go Go.RM
namespace Go.Proofs.YtgdbfbalchdmcaaGreat.St
set_option maxRecDepth 1000000
noncomputable def Ou:XE:=⟨64,[.agg #[.slice (some ⟨0,0,none⟩) 5 7,.slice (some ⟨1,0,none⟩) 2 4,.slice (some ⟨2,0,none⟩) 1 3],.slice (some ⟨3,0,none⟩) 2 4,.int .i64 1],[[.int .i64 3,.int .i64 3,.int .i64 2,.int .i64 2,.int .i64 3],[.string ⟨#[111,105,108]⟩,.int .i64 40,.int .i64 50,.int .i64 0,.int .i64 0,.int .i64 8,.int .i64 10,.int .i64 60,.int .i64 1000,.string ⟨#[119,97,116,101,114]⟩,.int .i64 30,.int .i64 40,.int .i64 2,.int .i64 3,.int .i64 0,.int .i64 0,.int .i64 40,.int .i64 500],[.int .i64 2,.int .i64 1,.int .i64 10],[.int .i64 2,.int .i64 0,.int .i64 25,.int .i64 28,.int .i64 2,.int .i64 0,.int .i64 0,.int .i64 24]],.slice none 0 0,[]⟩
theorem Ov:dJ TT Ou:=gj jg dj (tab:=[]) (fun e he=>nomatch he) 1000 (by kernel_rfl)
end Go.Proofs.YtgdbfbalchdmcaaGreat.St
open Go Go.RM
namespace Go.Proofs.YtgdbfbalchdmcaaGreat.St
set_option maxRecDepth 1000000
noncomputable def Ow:XE:=⟨26,[.agg #[.slice (some ⟨0,0,none⟩) 5 7,.slice (some ⟨1,0,none⟩) 2 4,.slice (some ⟨2,0,none⟩) 1 3],.slice (some ⟨3,0,none⟩) 2 4],[[.int .i64 3,.int .i64 3,.int .i64 2,.int .i64 2,.int .i64 3],[.string ⟨#[111,105,108]⟩,.int .i64 40,.int .i64 50,.int .i64 0,.int .i64 0,.int .i64 8,.int .i64 10,.int .i64 60,.int .i64 1000,.string ⟨#[119,97,116,101,114]⟩,.int .i64 30,.int .i64 40,.int .i64 2,.int .i64 3,.int .i64 0,.int .i64 0,.int .i64 40,.int .i64 500],[.int .i64 2,.int .i64 1,.int .i64 10],[.int .i64 2,.int .i64 0,.int .i64 25,.int .i64 28,.int .i64 2,.int .i64 0,.int .i64 0,.int .i64 24]],.tuple #[.slice (some ⟨4,0,none⟩) 1 3,.int .i64 0],[[.int .i64 0]]⟩
theorem Ox:dJ TT Ow:=gj jg dj (tab:=[Oq,Ou]) (by intro e he;simp at he;rcases he with rfl|rfl <;> first|exact Ot|exact Ov) 1000 (by kernel_rfl)
end Go.Proofs.YtgdbfbalchdmcaaGreat.St
open Go Go.RM
namespace Go.Proofs.YtgdbfbalchdmcaaGreat.St
set_option maxRecDepth 1000000
noncomputable def Oy:XE:=⟨23,[.agg #[.slice (some ⟨0,0,none⟩) 5 7,.slice (some ⟨1,0,none⟩) 2 4,.slice (some ⟨2,0,none⟩) 1 3],.slice none 0 0,.int .i64 1],[[.int .i64 3,.int .i64 3,.int .i64 2,.int .i64 2,.int .i64 3],[.string ⟨#[111,105,108]⟩,.int .i64 40,.int .i64 50,.int .i64 0,.int .i64 0,.int .i64 8,.int .i64 10,.int .i64 60,.int .i64 1000,.string ⟨#[119,97,116,101,114]⟩,.int .i64 30,.int .i64 40,.int .i64 2,.int .i64 3,.int .i64 0,.int .i64 0,.int .i64 40,.int .i64 500],[.int .i64 2,.int .i64 1,.int .i64 10]],.tuple #[.agg #[.int .i64 0,.int .i64 0,.int .i64 0],.int .i64 0,.int .i64 4],[]⟩
theorem Oz:dJ TT Oy:=gj jg dj (tab:=[]) (fun e he=>nomatch he) 1000 (by kernel_rfl)
end Go.Proofs.YtgdbfbalchdmcaaGreat.St
