/- Several texts, one behind the other. Conditions: as each of them says. -/
import Derived.Test.YtjmbphjgiodioaaGreatDoorMv6
import Derived.ChangeSlices
set_option maxRecDepth 100000
set_option maxHeartbeats 32000000
namespace Go.Proofs.YtjmbphjgiodioaaGreatDoor
open Go.RowKit Go.Joins Go.ChangeShapes Go.WideShapes Go.Deep
section
variable {H:Type} {enc:TypeId×Value→H} {w:World} {held:Bool} {fuel:Nat} {cs:List Value} {x:DataW H×List MemPlace}
theorem sl_ints_of (h:DataW.trod enc Tryz.prog w 0 (fun _=>true) held fuel 94 cs=some x):∃(a:Option Addr) (c:Nat) (l:List Int),cs=[.slice a l.length c]∧Sl (fun _=>False) w a c l:=by
 rcases open_ints Tryz.underlying94 Tryz.underlying3 (by kernel_rfl) h with ⟨rfl,_⟩|⟨a,len,cap,zs,rfl,_,hl,hm,hz,_,hr,hw⟩
 ·exact ⟨none,0,[],rfl,Sl.nil _ _ _ (by unfold maxLen;omega)⟩
 have hz':zs.length=cap:=by simpa using hz
 have e:(zs.take len).length=len:=by rw [List.length_take];omega
 refine ⟨some a,cap,zs.take len,by rw [e],sl_int_of hl hm hz' hw (fun h=>by cases h) fun a' ha' c hc=> ?_⟩
 obtain rfl:a=a':=by simpa using ha'
 exact hr c (by omega)
end
end Go.Proofs.YtjmbphjgiodioaaGreatDoor
