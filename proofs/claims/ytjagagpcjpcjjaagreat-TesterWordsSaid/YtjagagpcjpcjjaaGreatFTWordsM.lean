/- For every input 'TesterWords' returns true and leaves its arguments as they were. No condition beyond the given row's. -/
import Derived.Test.YtjagagpcjpcjjaaGreatMw01
import Derived.Test.YtjagagpcjpcjjaaGreatRows
import Derived.Test.YtjagagpcjpcjjaaGreatMw47
import Derived.Test.YtjagagpcjpcjjaaGreatMw46
import Derived.WalkKit
import Derived.ProofKit
import Derived.OpenShut
import Derived.ShutString
import Derived.ChangeOld
import Derived.Below
namespace Go.Proofs.YtjagagpcjpcjjaaGreat
open Go.ChangeShapes Go.WideShapes Go.ChangeAt Go.RowKit
set_option linter.unusedVariables false
set_option maxRecDepth 100000

theorem Em:ownKnob Tryz.prog.godebug=none:=aB
theorem uZ:laidOutB Tryz.prog=true:=aB

theorem Ac (os:_root_.Go.Os) (started:os.Started) (H:Type) (enc:TypeId×Value->H):ReturnsInHanded {} Tryz.checked os 3 .any (Rows.testerWordsSpec.pre6 enc Tryz.prog Tryz.f3 Rows.testerWordsRow.domain false) (Rows.testerWordsSpec.post enc Tryz.prog Tryz.f3 false true false false):=by
 refine returnsInHanded_of_change (C:=Tryz.checked) Em started aB Tryz.func3
   (ChangeSpec.witness6 (enc:=enc) (C:=Tryz.checked) false ⟨#[],#[.agg #[.int .i64 0,.int .i64 0,.slice none 0 0,.slice none 0 0],.agg #[.int .i64 0,.int .i64 0,.int .u64 0,.int .i64 0,.int .i64 0]],[]⟩ 8 aB aB aB aB) ?_
 intro W base args ds gs before hval0 hW apX _;have hval:∀(j:Nat) t v,Tryz.f3.params[j]? =some t->args[j]? =some v->Value.okWide Tryz.prog W .any base t v:=hval0;have hW':=hW;obtain ⟨p,q,hA0,hV,rfl,hfz,hnd⟩:=hW;have hA:DataW.TrodAll enc Tryz.prog W 0 (fun _=>true) true Tryz.f3.params.toList args.toList ds p:=hA0;rw [Tryz.params3] at hA hval;obtain ⟨v0,vs0,d0,ds0,p0,q0,aoD,rfl,rfl,h0,r0⟩:=trodAll_cons hA;obtain ⟨v1,vs1,d1,ds1,p1,q1,rfl,rfl,rfl,h1,r1⟩:=trodAll_cons r0;obtain ⟨rfl,rfl,rfl⟩:=trodAll_nil r1;obtain rfl:args= #[v0,v1]:=by cases args;simp_all
 obtain ⟨rfl,rfl⟩:=trodVars_none hV;have k0:=h0;have lt0:∀x∈p0,x.block<W.heap.size:=by obtain ⟨m,hm⟩:=k0;exact DataW.trod_lt m _ _ _ hm
 obtain ⟨m0,an0,cn0,ao0,co0,rfl,hm0⟩:=RV (hval 0 24 v0 rfl rfl) h0;have k1:=h1;have lt1:∀x∈p1,x.block<W.heap.size:=by obtain ⟨m,hm⟩:=k1;exact DataW.trod_lt m _ _ _ hm
 obtain ⟨s1,rfl,hs1⟩:=acF (hval 1 27 v1 rfl rfl) h1;clear hA0 hval0;refine (IC hm0 s1 (bK hs1)).mono fun e W' ⟨he,bel⟩=> ?_;subst he;exact ⟨_,rfl,_,_,_,[],_,[],hW',trodAll_mk1 (shut_bool Tryz.underlying4 _),(trodAll_cons_mk (Below.trod uZ aB (fT aB) k0 bel lt0) (trodAll_cons_mk (Below.trod uZ aB (fT aB) k1 bel lt1) trodAll_mk0)),rfl,bel.frame _,fun h=>by cases h⟩

theorem CR:Rows.testerWordsRow.holds Tryz.pinned (OpenSpec.ofChange Rows.testerWordsSpec):=
  OpenClaim.holds_of_wide 3 Tryz.f3 rfl rfl rfl rfl rfl rfl rfl ⟨rfl,rfl,rfl,rfl,rfl⟩ rfl rfl rfl rfl rfl aB Tryz.func3 aB
    (fT aB) (by unfold Func.isWrapper;first|(rw [bQ (by decide+kernel)];kernel_rfl)|(rw [bO (by decide+kernel)];exact ⟨rfl,rfl⟩))
    (fun os started H enc _=>Ac os started H enc)

theorem testerWords_proved:Rows.TesterWordsSaid:=CR
#print axioms testerWords_proved
end Go.Proofs.YtjagagpcjpcjjaaGreat
