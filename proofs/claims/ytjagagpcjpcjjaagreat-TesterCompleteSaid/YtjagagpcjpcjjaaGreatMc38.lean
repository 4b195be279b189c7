/- Several texts, one behind the other. Conditions: as each of them says. -/
import Derived.Test.YtjagagpcjpcjjaaGreatMc35
import Derived.Laws.BytesArg
set_option maxRecDepth 100000
set_option maxHeartbeats 32000000
namespace Go.Proofs.YtjagagpcjpcjjaaGreat
open Go.RowKit
structure By where
 n:Int
instance:GR By where
 sz:=1
 rep _ _ cs x:=cs=[.int .u8 x.n]∧0≤x.n∧x.n<256
 len h:=by rw [h.1];rfl
 ext _ h:=h
theorem info_byte:(Tryz.prog.info? 5).map (fun i=>(i.zero,i.size,i.bytes))=some (some (.int .u8 0),1,1):=by kernel_rfl
section
variable {B:Nat} {M:Nat→Prop} {w:World} {T:TypeId} {a:Option Addr} {c:Nat}
theorem Ow.at_by {l:List By} (h:Ow B M w T (.slice a l.length c) l) {j:Nat} (hj:j<l.length):
    ∃g,a=some ⟨g,0,none⟩∧w.cell? ⟨g,0+j,none⟩=some (.int .u8 ((l.map By.n).getD j 0)):=by
 obtain ⟨g,rfl,_,_⟩:=ow_some h (by omega)
 obtain ⟨xs,h1,h2⟩:=h
 obtain ⟨h3,h4⟩:=h2 j l[j] (by simp [hj])
 refine ⟨g,rfl,?_⟩
 rw [Nat.zero_add,h1.cellAt j (by simpa [GR.sz] using hj),take_drop_one h3]
 simp [List.getD_eq_getElem?_getD,hj]
end
section
variable {P:Program} {w:World} {o:Oper} {a:Act} {ops:Array Oper} {rest:List Oper} {Q:Exit→Act→World→Prop}
theorem wpList_push_by {l:List By} {s x:Operand} {t e:TypeId} {B:Nat} {v:Value} {g:Nat} {c:Nat} {y:By} (hg:o.guard=none) (hop:o.op= .call {callee:= .builtin .append,args:= #[s,x],argTypes:= #[t,t]})
    (ht:P.underlying t=some (.slice e)) (hi:(P.info? e).map (fun i=>(i.zero,i.size,i.bytes))=some (some (.int .u8 0),1,1))
    (hs:a.eval s=v) (hx:a.eval x= .slice (some ⟨g,0,none⟩) 1 c) (hown:Ow B (fun k=>B≤k) w e v l) (hnew:w.cell? ⟨g,0,none⟩=some (.int .u8 y.n)) (hy:0≤y.n∧y.n<256)
    (hlen:l.length<1000000000000) (hB:B≤w.heap.size)
    (h:∀(a':Option Addr) (c':Nat) (l':List By) (w':World),Hid (l'=l++[y])→Ow B (fun k=>B≤k) w' e (.slice a' l'.length c') l'→Below B w w'→
     wpList P ops Q rest (a.put o.dst (.slice a' l'.length c')) w'):wpList P ops Q (o::rest) a w:=by
 refine wpList_push hg s x t hop e (.int .u8 0) 1 1 ht hi rfl (by decide) B (fun k=>B≤k) v l hs rfl hown (fun k hk=>(hown.lt k hk).1) ⟨g,0,none⟩ c [.int .u8 y.n] y hx ⟨rfl,hy⟩ ?_ ?_ (by omega) (by unfold maxLen;omega) hB ?_
 ·intro j u hj
  match j,hj with
  |0,hj=>simp at hj;subst hj;simpa [Addr.add] using hnew
 ·intro u hu;simp at hu;subst hu;rfl
 intro a' c' l' w' h1 h2 h3
 exact h a' c' l' w' h1 h2 ((Below.refl _ _).grown h3 hB (fun k hk=>(hown.lt k hk).1))
end
def keyB (l:List Int):ByteArray:=strOfNums l
section
variable {M:Nat→Prop} {w:World} {a:Option Addr} {c:Nat} {l:List Int}
theorem key_any (hs:Sl M w a c l) (hl:Hid (∀x∈l,0≤x∧x<256)) (hn:Hid (l.length<100000)):
    Calls Tryz.prog 214 #[.slice a l.length c] w fun e w'=>e= .returned (.string (keyB l))∧Below w.heap.size w w':=by
 have ll:=hs.le
 have hn':=hn.out
 go_enter Tryz.func214,Tryz.ntmps214
 go_wp2_with (at_make;refine wpList_mk0 (α:=By) rfl _ _ _ rfl _ _ _ Tryz.underlying291 info_byte w.heap.size (fun k=>w.heap.size≤k) l.length rfl rfl (by omega) (by unfold maxLen;omega) (Nat.le_refl _) ?_)
 intro w1 hO1 hb1
 have hz1:w.heap.size≤w1.heap.size:=hb1.size
 have HS:=Lib.hid hs
 clear hs
 go_wp2
 go_loopw [3,11] (fun v i wr=>∃(k:Nat) (a':Option Addr) (c':Nat) (K:List By),k≤l.length∧i= .int .i64 k∧v= .slice a' K.length c'∧Hid (K.map By.n=l.take k)∧Ow w.heap.size (fun k=>w.heap.size≤k) wr 5 (.slice a' K.length c') K∧Below w.heap.size w wr) (fun _ i _=>l.length-(intOf i).toNat)
 case atStart=>exact ⟨0,_,_,[],by omega,rfl,rfl,rfl,hO1,hb1⟩
 case round=>
  clear hO1 hb1 hz1
  obtain ⟨k,a2,c2,K,hk,rfl,rfl,hK,hO,hB⟩:=hrel
  obtain ⟨wo,rfl⟩:∃wo:World,wo=wr:=⟨_,rfl⟩
  have hz:=hB.size
  have hKl:Hid (K.length=k):=by
   have h1:=congrArg List.length hK.out
   rw [List.length_map,List.length_take] at h1
   unfold Hid;omega
  by_cases hlt:k<l.length
  ·obtain ⟨bs,os,x,rfl,hcx,hx, -⟩:=(HS.out.below hB).at_int hlt
   have hxr:=hl.out x (List.mem_of_getElem? hx.out)
   have hx0:0≤x:=hxr.1
   have hx1:x<256:=hxr.2
   have hwr:IntKind.u8.wrap x=x:=by
    unfold IntKind.wrap;simp [IntKind.signed,IntKind.bits];omega
   have hKn:Hid ((K++[(⟨x⟩:By)]).map By.n=l.take (k+1)):=by unfold Hid;rw [List.take_add_one,hx.out,List.map_append,hK.out];rfl
   clear hxr
   go_wp2_with (at_builtin;refine wpList_push_by (B:=w.heap.size) (l:=K) (y:=⟨x⟩) rfl rfl Tryz.underlying291 info_byte rfl rfl (hO.alloc _) (by simp [go_sem]) ⟨hx0,hx1⟩ (by have:=hKl.out;omega) (by simp;omega) ?_)
   intro a3 c3 K3 w3 hK3 hO3 hb3
   have hB3:=hB.trans (((Below.refl w.heap.size wo).alloc hz (.cells #[.int .u8 x] 5)).trans hb3)
   have hKn:Hid (K3.map By.n=l.take (k+1)):=by unfold Hid;rw [hK3.out];exact hKn.out
   clear hO hB hK3 hb3
   go_wp2
   go_roundw
   case rel=>exact ⟨k+1,a3,c3,K3,by omega,by go_num,rfl,hKn,hO3,hB3⟩
   case measure=>simp [intOf];omega
  have hKm:Hid (K.map By.n=l):=by unfold Hid;rw [hK.out,List.take_of_length_le (by omega)]
  by_cases h0:0<K.length
  ·obtain ⟨g,rfl, -⟩:=hO.at_by h0
   have HO:=Lib.hid hO
   have kc:=run_convert_bytes_arg (P:=Tryz.prog) wo 291 5 Tryz.underlying291 Tryz.underlying5 g 0 K.length c2 (K.map By.n) (by simp) (fun i hi=>by
    obtain ⟨g',hg',hc⟩:=HO.out.at_by hi
    obtain rfl:g=g':=by simpa using hg'
    exact hc) 9 Tryz.underlying9
   rw [hKm.out] at kc
   clear hO
   go_wp2
   go_ret
   exact ⟨rfl,hB⟩
  have h00:Hid (l=[]):=by have:=congrArg List.length hKm.out;rw [List.length_map] at this;exact List.eq_nil_of_length_eq_zero (by omega)
  have hKz:K.length=0:=by omega
  have hF:Hid (keyB l=ByteArray.empty):=by unfold Hid keyB;rw [h00.out];rfl
  have hsh:a2=none∨∃g,a2=some ⟨g,0,none⟩:=by
   obtain ⟨xs,⟨_,h2⟩,_⟩:=hO
   rcases h2 with ⟨hv,_⟩|⟨g,cap,cur,hv,_⟩
   ·simp only [Value.slice.injEq] at hv;exact .inl hv.1
   simp only [Value.slice.injEq] at hv;exact .inr ⟨g,hv.1⟩
  rcases hsh with rfl|⟨g,rfl⟩
  ·have kc:=run_convert_bytes_nil (P:=Tryz.prog) wo 291 5 Tryz.underlying291 Tryz.underlying5 0 c2 9 Tryz.underlying9
   rw [←hF.out] at kc
   clear hO
   go_wp2
   go_ret
   exact ⟨rfl,hB⟩
  have kc:=run_convert_bytes_arg (P:=Tryz.prog) wo 291 5 Tryz.underlying291 Tryz.underlying5 g 0 0 c2 [] rfl (fun i hi=>absurd hi (Nat.not_lt_zero _)) 9 Tryz.underlying9
  have e0:strOfNums []=keyB l:=by rw [hF.out];rfl
  rw [e0] at kc
  clear hO e0
  go_wp2
  go_ret
  exact ⟨rfl,hB⟩
end
end Go.Proofs.YtjagagpcjpcjjaaGreat
