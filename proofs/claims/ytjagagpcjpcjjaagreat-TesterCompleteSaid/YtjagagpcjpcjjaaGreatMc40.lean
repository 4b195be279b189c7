/- Several texts, one behind the other. Conditions: as each of them says. -/
import Derived.Test.YtjagagpcjpcjjaaGreatMc27
import Derived.Test.YtjagagpcjpcjjaaGreatMc19
import Derived.Test.YtjagagpcjpcjjaaGreatMc7
set_option maxRecDepth 100000
set_option maxHeartbeats 32000000
namespace Go.Proofs.YtjagagpcjpcjjaaGreat
open Go.RowKit Go.Shelf
attribute [local go_sem] Oper.semAt_some
def pIn (C:List (List Int)) (p x:List Int):List (List Int):=C.map fun t=>(p++x)++t
def pMid (X C:List (List Int)) (p:List Int):List (List Int):=X.flatMap fun x=>pIn C p x
theorem fmS {α β:Type} {l:List α} {f:α→List β} {k:Nat} {x:α} (h:l[k]? =some x):(l.take (k+1)).flatMap f=(l.take k).flatMap f++f x:=by
 rw [List.take_add_one,h,List.flatMap_append];simp
theorem pIn_step {C:List (List Int)} {p x t:List Int} {k:Nat} (h:C[k]? =some t):pIn (C.take (k+1)) p x=pIn (C.take k) p x++[(p++x)++t]:=by
 unfold pIn;rw [List.take_add_one,h,List.map_append];rfl
theorem pMid_step {X C:List (List Int)} {p x:List Int} {k:Nat} (h:X[k]? =some x):pMid (X.take (k+1)) C p=pMid (X.take k) C p++pIn C p x:=by unfold pMid;exact fmS h
theorem fm_pre {α β:Type} (l:List α) (f:α→List β) (k:Nat):(l.take k).flatMap f<+:l.flatMap f:=by
 conv=>rhs;rw [←List.take_append_drop k l]
 rw [List.flatMap_append]
 exact List.prefix_append _ _
theorem prod_pre {A X C:List (List Int)} {u v t:List Int} {k k2 k3:Nat} (hu:A[k]? =some u) (hv:X[k2]? =some v) (ht:C[k3]? =some t):
    (((A.take k).flatMap (pMid X C)++pMid (X.take k2) C u)++pIn (C.take k3) u v)++[(u++v)++t]<+:A.flatMap (pMid X C):=by
 have h1:=fm_pre A (pMid X C) (k+1)
 rw [fmS hu] at h1
 have h2:pMid (X.take (k2+1)) C u<+:pMid X C u:=fm_pre X (fun x=>pIn C u x) (k2+1)
 rw [pMid_step hv] at h2
 have h3:pIn (C.take (k3+1)) u v<+:pIn C u v:=by
  unfold pIn
  conv=>rhs;rw [←List.take_append_drop (k3+1) C]
  rw [List.map_append]
  exact List.prefix_append _ _
 rw [pIn_step ht] at h3
 rw [List.append_assoc,List.append_assoc]
 refine List.IsPrefix.trans ?_ h1
 rw [List.prefix_append_right_inj]
 refine List.IsPrefix.trans ?_ h2
 rw [List.prefix_append_right_inj]
 exact h3
def Sm7 (L:List (List Int)):Prop:=L.length<1000000∧∀r∈L,r.length≤1000000
theorem Sl.notB {α:Type} [GR α] {M:Nat→Prop} {w:World} {b off c:Nat} {l:List α} (h:Sl M w (some ⟨b,off,none⟩) c l) {j:Nat} (hj:j<l.length):¬M b:=by
 obtain ⟨b',off',cs,ha, -,hm, -⟩:=h.2.2 j l[j] (by simp [hj])
 obtain rfl:b=b':=by simp at ha;exact ha.1
 exact hm
theorem prods1_in {n:Nat} (hn:1≤n) (l Bl B1 B2 B3:Nat) {MA MX MC:Nat→Prop} {aA aX aC:Option Addr} {cA cX cC:Nat} {A X C:List (List Int)} (J:List (List Int)→World→Prop) (Wb W:World) (hWb:Kep Wb.heap.size Bl Wb W)
    (hJb:∀K A B,J K A→Below A.heap.size A B→J K B)
    (hY:∀K (x:List Int) (ax:Option Addr) (cx:Nat) W0 W1,J K W0→Below W0.heap.size W0 W1→Sl (fun k=>k<W0.heap.size) W1 ax cx x→K++[x]<+:A.flatMap (pMid X C)→
     YieldAt Fence.wide (n-1) Tryz.prog l #[.slice ax x.length cx] W1 fun e W'=>e= .returned (.bool true)∧J (K++[x]) W'∧Kep Wb.heap.size Bl W1 W')
    (h1:Wb.cell? ⟨B1,0,none⟩=some (.slice aA A.length cA)) (h2:Wb.cell? ⟨B2,0,none⟩=some (.slice aX X.length cX)) (h3:Wb.cell? ⟨B3,0,none⟩=some (.slice aC C.length cC))
    (hb1:B1≠Bl) (hb2:B2≠Bl) (hb3:B3≠Bl) (hA:Sl MA Wb aA cA A) (hX:Sl MX Wb aX cX X) (hC:Sl MC Wb aC cC C) (mA:MA Bl) (mX:MX Bl) (mC:MC Bl) (sA:Hid (Sm7 A)) (sX:Hid (Sm7 X)) (sC:Hid (Sm7 C)) (h0:J [] W):
    CallsIn Fence.wide n Tryz.prog 129 #[.func (.yield l) #[] #[],.pointer (some ⟨B1,0,none⟩),.pointer (some ⟨B2,0,none⟩),.pointer (some ⟨B3,0,none⟩)] W fun e W'=>(∃v,e= .returned v)∧J (A.flatMap (pMid X C)) W':=by
 have HS:Hid (∀W',Kep Wb.heap.size Bl Wb W'→(W'.cell? ⟨B1,0,none⟩=some (.slice aA A.length cA)∧W'.cell? ⟨B2,0,none⟩=some (.slice aX X.length cX)∧W'.cell? ⟨B3,0,none⟩=some (.slice aC C.length cC))):=fun W' h=>
  ⟨h.cell (lt_of_cell h1) hb1 h1,h.cell (lt_of_cell h2) hb2 h2,h.cell (lt_of_cell h3) hb3 h3⟩
 have HA:=Lib.hid hA
 have HX:=Lib.hid hX
 have HC:=Lib.hid hC
 have la:=hA.le
 have lx:=hX.le
 have lc:=hC.le
 have HJb:=Lib.hid hJb
 have HY:=Lib.hid hY
 obtain ⟨c1, -, -⟩:=HS.out _ hWb
 clear hA hX hC h1 h2 h3 hJb hY
 refine callsIn_of_wp Tryz.func129 rfl trivial ?_ rfl
 simp only [Tryz.ntmps129,List.size_toArray,List.length_cons,List.length_nil,Nat.reduceAdd,Nat.reduceSub,Array.replicate_succ,Array.replicate_zero,List.push_toArray,List.append_toArray,List.nil_append,List.cons_append]
 gi_wp2
 gi_loopw [13] (fun i wr=>∃k:Nat,k≤A.length∧i= .int .i64 k∧Hid (J ((A.take k).flatMap (pMid X C)) wr)∧Kep Wb.heap.size Bl Wb wr) (fun i _=>A.length-(intOf i).toNat)
 case atStart=>exact ⟨0,Nat.zero_le _,rfl,h0,hWb⟩
 case round=>
  obtain ⟨k,hk,rfl,hJ,hB⟩:=hrel
  obtain ⟨wo,rfl⟩:∃wo:World,wo=wr:=⟨_,rfl⟩
  by_cases hlt:k<A.length
  ·obtain ⟨bA,oA,au,u,cu,rfl,huc0,hu,hus0⟩:=HA.out.at_row hlt
   have huc:=hB.cell (lt_of_cell huc0) (fun e=>(HA.out).notB hlt (e▸mA)) huc0
   have HU:=Lib.hid hus0
   have hul:=Lib.hid (sA.out.2 u (List.mem_of_getElem? hu.out))
   have hule:=hus0.le
   obtain ⟨-,c2, -⟩:=HS.out _ hB
   have hJ0:Hid (J ((A.take k).flatMap (pMid X C)++pMid (X.take 0) C u) wo):=by unfold Hid;rw [List.take_zero];unfold pMid;rw [List.flatMap_nil,List.append_nil];exact hJ.out
   clear huc0 hus0
   gi_wp2
   gi_loopw [19] (fun i wr=>∃k2:Nat,k2≤X.length∧i= .int .i64 k2∧Hid (J ((A.take k).flatMap (pMid X C)++pMid (X.take k2) C u) wr)∧Kep Wb.heap.size Bl Wb wr) (fun i _=>X.length-(intOf i).toNat)
   case atStart=>exact ⟨0,Nat.zero_le _,rfl,hJ0,hB⟩
   case round=>
    clear hJ hB hJ0 huc c2
    obtain ⟨k2,hk2,rfl,hJ,hB⟩:=hrel
    obtain ⟨wo,rfl⟩:∃wo:World,wo=wr:=⟨_,rfl⟩
    by_cases hlt2:k2<X.length
    ·obtain ⟨bX,oX,av,v,cv,rfl,hvc0,hv,hvs0⟩:=HX.out.at_row hlt2
     have hvc:=hB.cell (lt_of_cell hvc0) (fun e=>(HX.out).notB hlt2 (e▸mX)) hvc0
     have HV:=Lib.hid hvs0
     have hvl:=Lib.hid (sX.out.2 v (List.mem_of_getElem? hv.out))
     have hvle:=hvs0.le
     obtain ⟨-, -,c3⟩:=HS.out _ hB
     have hJ0:Hid (J (((A.take k).flatMap (pMid X C)++pMid (X.take k2) C u)++pIn (C.take 0) u v) wo):=by unfold Hid;rw [List.take_zero];unfold pIn;rw [List.map_nil,List.append_nil];exact hJ.out
     clear hvc0 hvs0
     gi_wp2
     gi_loopw [25] (fun i wr=>∃k3:Nat,k3≤C.length∧i= .int .i64 k3∧Hid (J (((A.take k).flatMap (pMid X C)++pMid (X.take k2) C u)++pIn (C.take k3) u v) wr)∧Kep Wb.heap.size Bl Wb wr) (fun i _=>C.length-(intOf i).toNat)
     case atStart=>exact ⟨0,Nat.zero_le _,rfl,hJ0,hB⟩
     case round=>
      clear hJ hB hJ0 hvc c3
      obtain ⟨k3,hk3,rfl,hJ,hB⟩:=hrel
      obtain ⟨wo,rfl⟩:∃wo:World,wo=wr:=⟨_,rfl⟩
      by_cases hlt3:k3<C.length
      ·obtain ⟨bC,oC,at',t,ct,rfl,htc0,ht,hts0⟩:=HC.out.at_row hlt3
       have htc:=hB.cell (lt_of_cell htc0) (fun e=>(HC.out).notB hlt3 (e▸mC)) htc0
       have htl:=Lib.hid (sC.out.2 t (List.mem_of_getElem? ht.out))
       have htle:=hts0.le
       have hzo:=hB.1
       have hr:=rows3 (T:=49) (hB.sl mA HU.out) (hB.sl mX HV.out) (hB.sl mC hts0) rfl (m:=v.length) rfl (k:=t.length) rfl
       have HJo:=Lib.hid (join_any hr (by have:=hul.out;have:=hvl.out;have:=htl.out;rw [flat3];simp;omega))
       have hba:=(Below.refl wo.heap.size wo).alloc (Nat.le_refl _) (.cells #[.slice au u.length cu,.slice av v.length cv,.slice at' t.length ct] 49)
       clear htc0 hts0 hr
       gi_wp2_with fail
       refine ⟨trivial,(callsIn_wide.2 HJo.out).mono ?_⟩
       rintro e w4 ⟨a4,c4,x4,rfl,hx4,hs4,hb4⟩
       have hx4e:Hid (x4=(u++v)++t):=by unfold Hid;rw [hx4.out,flat3,List.append_assoc]
       have hbw:=hba.trans (hb4.mono hba.size)
       have hsw:=hs4.anti (M':=fun k=>k<wo.heap.size) (fun k _ e=>by simp;omega)
       obtain ⟨fn,tmps,assign,body,hy,hR⟩:=HY.out _ x4 a4 c4 wo w4 hJ.out hbw hsw (by rw [hx4e.out];exact prod_pre hu.out hv.out ht.out)
       have hB4:=hB.trans (Kep.of_below hbw hzo)
       clear HJo hba hs4 hb4 hbw hsw htc hB
       gi_wp2
       refine hR.mono ?_
       rintro e W5 ⟨rfl,hJ5,hk5⟩
       have hJ2:Hid (J (((A.take k).flatMap (pMid X C)++pMid (X.take k2) C u)++pIn (C.take (k3+1)) u v) W5):=by unfold Hid;rw [pIn_step ht.out,←List.append_assoc,←hx4e.out];exact hJ5
       gi_wp2
       go_roundw
       case rel=>exact ⟨k3+1,by omega,by simp,hJ2,hB4.trans hk5⟩
       case measure=>simp [intOf];omega
      have hJ2 : Hid (J ((A.take k).flatMap (pMid X C) ++ pMid (X.take (k2 + 1)) C u) wo) := by
       have h:=hJ.out
       rw [List.take_of_length_le (l:=C) (by omega)] at h
       unfold Hid;rw [pMid_step hv.out,←List.append_assoc];exact h
      gi_wp2
      go_roundw
      case rel=>exact ⟨k2+1,by omega,by simp,hJ2,hB⟩
      case measure=>simp [intOf];omega
    have hJ2 : Hid (J ((A.take (k + 1)).flatMap (pMid X C)) wo) := by
     have h:=hJ.out
     rw [List.take_of_length_le (l:=X) (by omega)] at h
     unfold Hid;rw [fmS hu.out];exact h
    gi_wp2
    go_roundw
    case rel=>exact ⟨k+1,by omega,by simp,hJ2,hB⟩
    case measure=>simp [intOf];omega
  have hJf:J (A.flatMap (pMid X C)) wo:=by have h:=hJ.out;rw [List.take_of_length_le (by omega)] at h;exact h
  gi_wp2
  go_end0
  exact ⟨⟨_,rfl⟩,hJf⟩
theorem prods_any {w:World} {aA aX aC:Option Addr} {nA nX nC cA cX cC:Nat}:Calls Tryz.prog 76 #[.slice aA nA cA,.slice aX nX cX,.slice aC nC cC] w fun e w'=>
    e= .returned (.func (.func 129) #[] #[.pointer (some ⟨w.heap.size,0,none⟩),.pointer (some ⟨w.heap.size+1,0,none⟩),.pointer (some ⟨w.heap.size+1+1,0,none⟩)])∧
    w'=((w.alloc (.cells #[.slice aA nA cA] 22)).alloc (.cells #[.slice aX nX cX] 22)).alloc (.cells #[.slice aC nC cC] 22):=by
 have hmf:∀(fn:Fn) (first cap:Array Value) (w:World),(Instr.makeFunc fn first cap).run Tryz.prog w= .ok (.func fn first cap) w:=fun _ _ _ _=>rfl
 go_enter Tryz.func76,Tryz.ntmps76
 go_wp2
 go_ret
 exact ⟨rfl,rfl⟩
end Go.Proofs.YtjagagpcjpcjjaaGreat
