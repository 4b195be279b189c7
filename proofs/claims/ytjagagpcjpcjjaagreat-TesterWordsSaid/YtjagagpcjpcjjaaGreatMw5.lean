/- Lemmas, each with its own conditions. -/
import Derived.Test.YtjagagpcjpcjjaaGreatMw4
set_option maxRecDepth 100000
set_option maxHeartbeats 32000000
namespace Go.Proofs.YtjagagpcjpcjjaaGreat
open Tryz
open Go.RowKit
theorem Fj (s:Nat):IntKind.u64.wrap ((s:Int)+11400714819323198485)=((pX s:Nat):Int):=by
 rw [aqH];unfold pX;simp only [jQ];omega
theorem Aq (s:Nat):pX s<jQ:=gG _ (by decide)
section
variable {w:World}
theorem Wq {s:Nat}:Calls prog 184 #[.int .u64 (s:Int)] w fun e w'=>e= .returned (.tuple #[.int .u64 ((sW (pX s):Nat):Int),.int .u64 ((pX s:Nat):Int)])/\w'=w:=by
 have h1:=Fj s;obtain ⟨y,hy⟩:∃y,y=pX s:=⟨_,rfl⟩;have hyl:y<jQ:=by rw [hy];exact Aq s
 rw [<-hy] at h1 ⊢;obtain ⟨z,hz⟩:∃z,z=(y ^^^ y/1073741824)*13787848793156543929%jQ:=⟨_,rfl⟩;have hzl:z<jQ:=by rw [hz];exact gG _ (by decide)
 have h2:IntKind.u64.wrap (bits .xor .u64 (y:Int) ((y:Int)/1073741824)*13787848793156543929)=(z:Int):=by rw [hz];exact ar5 y 1073741824 13787848793156543929 hyl
 obtain ⟨u,hu⟩:∃u,u=(z ^^^ z/134217728)*10723151780598845931%jQ:=⟨_,rfl⟩;have hul:u<jQ:=by rw [hu];exact gG _ (by decide)
 have h3:IntKind.u64.wrap (bits .xor .u64 (z:Int) ((z:Int)/134217728)*10723151780598845931)=(u:Int):=by rw [hu];exact ar5 z 134217728 10723151780598845931 hzl
 have h4:bits .xor .u64 (u:Int) ((u:Int)/2147483648)=((sW y:Nat):Int):=by
  have h:=xorShift_u64 u 2147483648 hul;have e:sW y=u ^^^ u/2147483648:=by unfold sW;rw [hu,hz]
  rw [e];exact h
 clear hy hz hu hyl hzl hul;go_enter func184,ntmps184;go_wp2;go_ret2;exact ⟨rfl,rfl⟩
theorem Fp {s:Nat}:Calls prog 200 #[.int .u64 (s:Int)] w fun e w'=>e= .returned (.tuple #[.int .u64 ((sW (pX s):Nat):Int),.int .u64 ((pX s:Nat):Int)])/\w'=w:=by
 have h1:=Fj s;obtain ⟨y,hy⟩:∃y,y=pX s:=⟨_,rfl⟩;have hyl:y<jQ:=by rw [hy];exact Aq s
 rw [<-hy] at h1 ⊢;obtain ⟨z,hz⟩:∃z,z=(y ^^^ y/1073741824)*13787848793156543929%jQ:=⟨_,rfl⟩;have hzl:z<jQ:=by rw [hz];exact gG _ (by decide)
 have h2:IntKind.u64.wrap (bits .xor .u64 (y:Int) ((y:Int)/1073741824)*13787848793156543929)=(z:Int):=by rw [hz];exact ar5 y 1073741824 13787848793156543929 hyl
 obtain ⟨u,hu⟩:∃u,u=(z ^^^ z/134217728)*10723151780598845931%jQ:=⟨_,rfl⟩;have hul:u<jQ:=by rw [hu];exact gG _ (by decide)
 have h3:IntKind.u64.wrap (bits .xor .u64 (z:Int) ((z:Int)/134217728)*10723151780598845931)=(u:Int):=by rw [hu];exact ar5 z 134217728 10723151780598845931 hzl
 have h4:bits .xor .u64 (u:Int) ((u:Int)/2147483648)=((sW y:Nat):Int):=by
  have h:=xorShift_u64 u 2147483648 hul;have e:sW y=u ^^^ u/2147483648:=by unfold sW;rw [hu,hz]
  rw [e];exact h
 clear hy hz hu hyl hzl hul;go_enter func200,ntmps200;go_wp2;go_ret2;exact ⟨rfl,rfl⟩
end
