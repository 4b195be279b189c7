/- Several texts, one behind the other. Conditions: as each of them says. -/
import Derived.Test.YtlmfbjiejodalaaGreatDoorMx13
import Derived.WalkSmall
set_option maxRecDepth 100000
set_option maxHeartbeats 32000000
namespace Go.Proofs.YtlmfbjiejodalaaGreatDoor
open Go.RowKit
section
variable {w:World} {M:Nat→Prop} {a:Option Addr} {c:Nat}
theorem last_ok {n:Int} (hn:i64 n) {L R:List By} (hL:Hid (L=putI n++R)) (hs:Sl M w a c L):
    Calls Tryz.prog 165 #[.slice a L.length c] w fun e w'=>e= .returned (.int .i64 (((putI n).length-1:Nat):Int))∧w'=w:=by
 have ll:=hs.le
 obtain ⟨p,hp⟩:∃p,p=(putI n).length:=⟨_,rfl⟩
 have hp1:1≤p:=by rw [hp];exact (putI_len n).1
 have hp2:p≤10:=by rw [hp];exact (putI_len n).2
 have hpl:p≤L.length:=by rw [hL.out,List.length_append];omega
 have hlow:Hid (∀k x,k<p→L[k]? =some x→(128≤x.n↔k+1<p)):=by
  intro k x hk hx
  rw [hL.out,List.getElem?_append_left (by omega)] at hx
  rw [hp];exact putI_high hn hx
 rw [←hp]
 have HP:=Lib.hid hp
 have HS:=Lib.hid hs
 clear hs hp hL
 go_enter Tryz.func165,Tryz.ntmps165
 go_wp2
 go_loop [3] (fun i=>∃k:Nat,k<p∧i= .int .i64 k) (fun i=>p-(intOf i).toNat)
 case atStart=>exact ⟨0,by omega,rfl⟩
 case round=>
  obtain ⟨k,hk,rfl⟩:=hrel
  have hkL:k<L.length:=by omega
  have hk10:k<10:=by omega
  obtain ⟨bs,os,x,rfl,hcx,hx,hxi⟩:=HS.out.at_by hkL
  have hb:=hlow.out k x hk hx.out
  by_cases hlt:k+1<p
  ·have h0:¬x.n<128:=by omega
   clear hb
   go_wp2
   go_round
   case rel=>exact ⟨k+1,hlt,by go_num⟩
   case measure=>simp [intOf];omega
  have h0:x.n<128:=by omega
  have hkp:k=p-1:=by omega
  subst hkp
  clear hb
  go_wp2
  go_ret
  exact ⟨rfl,rfl⟩
theorem last_torn {L:List By} (hs:Sl M w a c L) (hall:Hid (∀x∈L,128≤x.n)) (hl:L.length<10):
    Calls Tryz.prog 165 #[.slice a L.length c] w fun e w'=>e= .panicked [{v:= .iface 44 (.int .i64 4),recovered:=false}]∧w'=w:=by
 have ll:=hs.le
 have HS:=Lib.hid hs
 clear hs
 go_enter Tryz.func165,Tryz.ntmps165
 go_wp2
 go_loop [3] (fun i=>∃k:Nat,k≤L.length∧i= .int .i64 k) (fun i=>L.length-(intOf i).toNat)
 case atStart=>exact ⟨0,by omega,rfl⟩
 case round=>
  obtain ⟨k,hk,rfl⟩:=hrel
  have hk10:k<10:=by omega
  by_cases hlt:k<L.length
  ·obtain ⟨bs,os,x,rfl,hcx,hx,hxi⟩:=HS.out.at_by hlt
   have hb:=hall.out x (List.mem_of_getElem? hx.out)
   have h0:¬x.n<128:=by omega
   clear hb
   go_wp2
   go_round
   case rel=>exact ⟨k+1,by omega,by go_num⟩
   case measure=>simp [intOf];omega
  have hl10:(L.length:Int)<10:=by omega
  go_wp2
  exact ⟨rfl,rfl,rfl⟩
end
end Go.Proofs.YtlmfbjiejodalaaGreatDoor
