/- Several texts, one behind the other. Conditions: as each of them says. -/
import Derived.Test.YtjagagpcjpcjjaaGreatMc4
import Derived.Test.YtjagagpcjpcjjaaGreatMc1
import Derived.Laws.Bits64
set_option maxRecDepth 100000
set_option maxHeartbeats 32000000
namespace Go.Proofs.YtjagagpcjpcjjaaGreat
open Go.RowKit
theorem wrap_add64 (s:Nat):IntKind.u64.wrap ((s:Int)+11400714819323198485)=((rndX s:Nat):Int):=by
 rw [IntKind.wrap_u64];unfold rndX;simp only [M64];omega
theorem rndX_lt (s:Nat):rndX s<M64:=Nat.mod_lt _ (by decide)
section
variable {w:World}
theorem rnext_any {s:Nat}:Calls Tryz.prog 184 #[.int .u64 (s:Int)] w fun e w'=>e= .returned (.tuple #[.int .u64 ((mixN (rndX s):Nat):Int),.int .u64 ((rndX s:Nat):Int)])∧w'=w:=by
 have h1:=wrap_add64 s
 obtain ⟨y,hy⟩:∃y,y=rndX s:=⟨_,rfl⟩
 have hyl:y<M64:=by rw [hy];exact rndX_lt s
 rw [←hy] at h1 ⊢
 obtain ⟨z,hz⟩:∃z,z=(y ^^^ y/1073741824)*13787848793156543929%M64:=⟨_,rfl⟩
 have hzl:z<M64:=by rw [hz];exact Nat.mod_lt _ (by decide)
 have h2:IntKind.u64.wrap (bits .xor .u64 (y:Int) ((y:Int)/1073741824)*13787848793156543929)=(z:Int):=by rw [hz];exact mixStep_u64 y 1073741824 13787848793156543929 hyl
 obtain ⟨u,hu⟩:∃u,u=(z ^^^ z/134217728)*10723151780598845931%M64:=⟨_,rfl⟩
 have hul:u<M64:=by rw [hu];exact Nat.mod_lt _ (by decide)
 have h3:IntKind.u64.wrap (bits .xor .u64 (z:Int) ((z:Int)/134217728)*10723151780598845931)=(u:Int):=by rw [hu];exact mixStep_u64 z 134217728 10723151780598845931 hzl
 have h4:bits .xor .u64 (u:Int) ((u:Int)/2147483648)=((mixN y:Nat):Int):=by
  have h:=xorShift_u64 u 2147483648 hul
  have e:mixN y=u ^^^ u/2147483648:=by unfold mixN;rw [hu,hz]
  rw [e];exact h
 clear hy hz hu hyl hzl hul
 go_enter Tryz.func184,Tryz.ntmps184
 go_wp2
 go_ret2
 exact ⟨rfl,rfl⟩
end
end Go.Proofs.YtjagagpcjpcjjaaGreat
