/-
  The examples of the document, reckoned. No condition.
-/
import Derived.Test.YtalcbebjpgfnfaaGreatR3
import Derived.Test.YtalcbebjpgfnfaaGreatT1
open Go Go.RM
namespace Go.Proofs.YtalcbebjpgfnfaaGreat.St
set_option maxRecDepth 1000000
noncomputable def Ni:XE:=⟨39,[.agg #[.slice (some ⟨0,0,none⟩) 5 7,.slice (some ⟨1,0,none⟩) 2 4,.slice (some ⟨2,0,none⟩) 1 3],.int .i64 1,.agg #[.int .i64 35,.int .i64 3,.int .i64 0],.int .i64 5],[[.int .i64 3,.int .i64 3,.int .i64 2,.int .i64 2,.int .i64 3],[.string ⟨#[111,105,108]⟩,.int .i64 40,.int .i64 50,.int .i64 0,.int .i64 0,.int .i64 8,.int .i64 10,.int .i64 60,.int .i64 1000,.string ⟨#[119,97,116,101,114]⟩,.int .i64 30,.int .i64 40,.int .i64 2,.int .i64 3,.int .i64 0,.int .i64 0,.int .i64 40,.int .i64 500],[.int .i64 2,.int .i64 1,.int .i64 10]],.tuple #[.slice (some ⟨3,0,none⟩) 6 8,.int .i64 5,.int .i64 0],[[.int .i64 35,.int .i64 26,.int .i64 17,.int .i64 21,.int .i64 15,.int .i64 6]]⟩
theorem Nj:fG TT Ni:=lu oE fZ (tab:=[]) (fun e he=>nomatch he) 1000 (by kernel_rfl)
end Go.Proofs.YtalcbebjpgfnfaaGreat.St
open Go Go.RM
namespace Go.Proofs.YtalcbebjpgfnfaaGreat.St
set_option maxRecDepth 1000000
noncomputable def Nk:XE:=⟨41,[.agg #[.slice (some ⟨0,0,none⟩) 5 7,.slice (some ⟨1,0,none⟩) 2 4,.slice (some ⟨2,0,none⟩) 1 3],.slice (some ⟨3,0,none⟩) 1 3,.int .i64 0,.int .i64 0],[[.int .i64 3,.int .i64 3,.int .i64 2,.int .i64 2,.int .i64 3],[.string ⟨#[111,105,108]⟩,.int .i64 40,.int .i64 50,.int .i64 0,.int .i64 0,.int .i64 8,.int .i64 10,.int .i64 60,.int .i64 1000,.string ⟨#[119,97,116,101,114]⟩,.int .i64 30,.int .i64 40,.int .i64 2,.int .i64 3,.int .i64 0,.int .i64 0,.int .i64 40,.int .i64 500],[.int .i64 2,.int .i64 1,.int .i64 10],[.int .i64 2,.int .i64 0,.int .i64 25,.int .i64 28]],.tuple #[.agg #[.int .i64 41,.int .i64 48],.int .i64 0],[]⟩
theorem Nl:fG TT Nk:=lu oE fZ (tab:=[]) (fun e he=>nomatch he) 1000 (by kernel_rfl)
end Go.Proofs.YtalcbebjpgfnfaaGreat.St
open Go Go.RM
namespace Go.Proofs.YtalcbebjpgfnfaaGreat.St
set_option maxRecDepth 1000000
noncomputable def Nm:XE:=⟨12,[.agg #[.slice (some ⟨0,0,none⟩) 5 7,.slice (some ⟨1,0,none⟩) 2 4,.slice (some ⟨2,0,none⟩) 1 3],.slice none 0 0,.int .i64 0],[[.int .i64 3,.int .i64 3,.int .i64 2,.int .i64 2,.int .i64 3],[.string ⟨#[111,105,108]⟩,.int .i64 40,.int .i64 50,.int .i64 0,.int .i64 0,.int .i64 8,.int .i64 10,.int .i64 60,.int .i64 1000,.string ⟨#[119,97,116,101,114]⟩,.int .i64 30,.int .i64 40,.int .i64 2,.int .i64 3,.int .i64 0,.int .i64 0,.int .i64 40,.int .i64 500],[.int .i64 2,.int .i64 1,.int .i64 10]],.tuple #[.int .i64 4,.int .i64 0],[]⟩
theorem Nn:fG TT Nm:=lu oE fZ (tab:=[]) (fun e he=>nomatch he) 1000 (by kernel_rfl)
end Go.Proofs.YtalcbebjpgfnfaaGreat.St
open Go Go.RM
namespace Go.Proofs.YtalcbebjpgfnfaaGreat.St
set_option maxRecDepth 1000000
noncomputable def Np:XE:=⟨43,[.agg #[.slice (some ⟨0,0,none⟩) 5 7,.slice (some ⟨1,0,none⟩) 2 4,.slice (some ⟨2,0,none⟩) 1 3],.slice (some ⟨3,0,none⟩) 1 3,.int .i64 0],[[.int .i64 3,.int .i64 3,.int .i64 2,.int .i64 2,.int .i64 3],[.string ⟨#[111,105,108]⟩,.int .i64 40,.int .i64 50,.int .i64 0,.int .i64 0,.int .i64 8,.int .i64 10,.int .i64 60,.int .i64 1000,.string ⟨#[119,97,116,101,114]⟩,.int .i64 30,.int .i64 40,.int .i64 2,.int .i64 3,.int .i64 0,.int .i64 0,.int .i64 40,.int .i64 500],[.int .i64 2,.int .i64 1,.int .i64 10],[.int .i64 2,.int .i64 0,.int .i64 25,.int .i64 28]],.tuple #[.agg #[.int .i64 43,.int .i64 0,.int .i64 9],.int .i64 4,.int .i64 0],[]⟩
theorem Nq:fG TT Np:=lu oE fZ (tab:=[]) (fun e he=>nomatch he) 1000 (by kernel_rfl)
end Go.Proofs.YtalcbebjpgfnfaaGreat.St
open Go Go.RM
namespace Go.Proofs.YtalcbebjpgfnfaaGreat.St
set_option maxRecDepth 1000000
noncomputable def Nr:XE:=⟨14,[.agg #[.slice (some ⟨0,0,none⟩) 5 7,.slice (some ⟨1,0,none⟩) 2 4,.slice (some ⟨2,0,none⟩) 1 3],.slice (some ⟨3,0,none⟩) 1 3,.int .i64 0,.int .i64 3],[[.int .i64 3,.int .i64 3,.int .i64 2,.int .i64 2,.int .i64 3],[.string ⟨#[111,105,108]⟩,.int .i64 40,.int .i64 50,.int .i64 0,.int .i64 0,.int .i64 8,.int .i64 10,.int .i64 60,.int .i64 1000,.string ⟨#[119,97,116,101,114]⟩,.int .i64 30,.int .i64 40,.int .i64 2,.int .i64 3,.int .i64 0,.int .i64 0,.int .i64 40,.int .i64 500],[.int .i64 2,.int .i64 1,.int .i64 10],[.int .i64 2,.int .i64 0,.int .i64 25,.int .i64 28]],.tuple #[.int .i64 5,.int .i64 0],[]⟩
theorem Ns:fG TT Nr:=lu oE fZ (tab:=[]) (fun e he=>nomatch he) 1000 (by kernel_rfl)
end Go.Proofs.YtalcbebjpgfnfaaGreat.St
open Go Go.RM
namespace Go.Proofs.YtalcbebjpgfnfaaGreat.St
set_option maxRecDepth 1000000
noncomputable def Nt:XE:=⟨44,[.agg #[.slice (some ⟨0,0,none⟩) 5 7,.slice (some ⟨1,0,none⟩) 2 4,.slice (some ⟨2,0,none⟩) 1 3],.slice none 0 0,.int .i64 1],[[.int .i64 3,.int .i64 3,.int .i64 2,.int .i64 2,.int .i64 3],[.string ⟨#[111,105,108]⟩,.int .i64 40,.int .i64 50,.int .i64 0,.int .i64 0,.int .i64 8,.int .i64 10,.int .i64 60,.int .i64 1000,.string ⟨#[119,97,116,101,114]⟩,.int .i64 23,.int .i64 23,.int .i64 2,.int .i64 3,.int .i64 0,.int .i64 0,.int .i64 40,.int .i64 500],[.int .i64 2,.int .i64 1,.int .i64 10]],.tuple #[.int .i64 3,.int .i64 0],[]⟩
theorem Nu:fG TT Nt:=lu oE fZ (tab:=[]) (fun e he=>nomatch he) 1000 (by kernel_rfl)
end Go.Proofs.YtalcbebjpgfnfaaGreat.St
open Go Go.RM
namespace Go.Proofs.YtalcbebjpgfnfaaGreat.St
set_option maxRecDepth 1000000
noncomputable def Nv:XE:=⟨93,[.agg #[.slice (some ⟨0,0,none⟩) 5 7,.slice (some ⟨1,0,none⟩) 2 4,.slice (some ⟨2,0,none⟩) 1 3],.slice (some ⟨3,0,none⟩) 2 4,.int .i64 0],[[.int .i64 3,.int .i64 3,.int .i64 2,.int .i64 2,.int .i64 3],[.string ⟨#[111,105,108]⟩,.int .i64 40,.int .i64 50,.int .i64 0,.int .i64 0,.int .i64 8,.int .i64 10,.int .i64 60,.int .i64 1000,.string ⟨#[119,97,116,101,114]⟩,.int .i64 30,.int .i64 40,.int .i64 2,.int .i64 3,.int .i64 0,.int .i64 0,.int .i64 40,.int .i64 500],[.int .i64 2,.int .i64 1,.int .i64 10],[.int .i64 2,.int .i64 0,.int .i64 25,.int .i64 28,.int .i64 2,.int .i64 0,.int .i64 0,.int .i64 24]],.slice (some ⟨4,0,none⟩) 1 3,[[.int .i64 0]]⟩
theorem Nw:fG TT Nv:=lu oE fZ (tab:=[]) (fun e he=>nomatch he) 1000 (by kernel_rfl)
end Go.Proofs.YtalcbebjpgfnfaaGreat.St
open Go Go.RM
namespace Go.Proofs.YtalcbebjpgfnfaaGreat.St
set_option maxRecDepth 1000000
noncomputable def Nx:XE:=⟨93,[.agg #[.slice (some ⟨0,0,none⟩) 5 7,.slice (some ⟨1,0,none⟩) 2 4,.slice (some ⟨2,0,none⟩) 1 3],.slice (some ⟨3,0,none⟩) 2 4,.int .i64 1],[[.int .i64 3,.int .i64 3,.int .i64 2,.int .i64 2,.int .i64 3],[.string ⟨#[111,105,108]⟩,.int .i64 40,.int .i64 50,.int .i64 0,.int .i64 0,.int .i64 8,.int .i64 10,.int .i64 60,.int .i64 1000,.string ⟨#[119,97,116,101,114]⟩,.int .i64 30,.int .i64 40,.int .i64 2,.int .i64 3,.int .i64 0,.int .i64 0,.int .i64 40,.int .i64 500],[.int .i64 2,.int .i64 1,.int .i64 10],[.int .i64 2,.int .i64 0,.int .i64 25,.int .i64 28,.int .i64 2,.int .i64 0,.int .i64 0,.int .i64 24]],.slice none 0 0,[]⟩
theorem Ny:fG TT Nx:=lu oE fZ (tab:=[]) (fun e he=>nomatch he) 1000 (by kernel_rfl)
end Go.Proofs.YtalcbebjpgfnfaaGreat.St
open Go Go.RM
namespace Go.Proofs.YtalcbebjpgfnfaaGreat.St
set_option maxRecDepth 1000000
noncomputable def Nz:XE:=⟨45,[.agg #[.slice (some ⟨0,0,none⟩) 5 7,.slice (some ⟨1,0,none⟩) 2 4,.slice (some ⟨2,0,none⟩) 1 3],.slice (some ⟨3,0,none⟩) 2 4],[[.int .i64 3,.int .i64 3,.int .i64 2,.int .i64 2,.int .i64 3],[.string ⟨#[111,105,108]⟩,.int .i64 40,.int .i64 50,.int .i64 0,.int .i64 0,.int .i64 8,.int .i64 10,.int .i64 60,.int .i64 1000,.string ⟨#[119,97,116,101,114]⟩,.int .i64 30,.int .i64 40,.int .i64 2,.int .i64 3,.int .i64 0,.int .i64 0,.int .i64 40,.int .i64 500],[.int .i64 2,.int .i64 1,.int .i64 10],[.int .i64 2,.int .i64 0,.int .i64 25,.int .i64 28,.int .i64 2,.int .i64 0,.int .i64 0,.int .i64 24]],.tuple #[.slice (some ⟨4,0,none⟩) 1 3,.int .i64 0],[[.int .i64 0]]⟩
theorem NA:fG TT Nz:=lu oE fZ (tab:=[Nv,Nx]) (by intro e he;simp at he;rcases he with rfl|rfl <;> first|exact Nw|exact Ny) 1000 (by kernel_rfl)
end Go.Proofs.YtalcbebjpgfnfaaGreat.St
open Go Go.RM
namespace Go.Proofs.YtalcbebjpgfnfaaGreat.St
set_option maxRecDepth 1000000
noncomputable def NB:XE:=⟨43,[.agg #[.slice (some ⟨0,0,none⟩) 5 7,.slice (some ⟨1,0,none⟩) 2 4,.slice (some ⟨2,0,none⟩) 1 3],.slice none 0 0,.int .i64 1],[[.int .i64 3,.int .i64 3,.int .i64 2,.int .i64 2,.int .i64 3],[.string ⟨#[111,105,108]⟩,.int .i64 40,.int .i64 50,.int .i64 0,.int .i64 0,.int .i64 8,.int .i64 10,.int .i64 60,.int .i64 1000,.string ⟨#[119,97,116,101,114]⟩,.int .i64 30,.int .i64 40,.int .i64 2,.int .i64 3,.int .i64 0,.int .i64 0,.int .i64 40,.int .i64 500],[.int .i64 2,.int .i64 1,.int .i64 10]],.tuple #[.agg #[.int .i64 0,.int .i64 0,.int .i64 0],.int .i64 0,.int .i64 4],[]⟩
theorem NC:fG TT NB:=lu oE fZ (tab:=[]) (fun e he=>nomatch he) 1000 (by kernel_rfl)
end Go.Proofs.YtalcbebjpgfnfaaGreat.St
