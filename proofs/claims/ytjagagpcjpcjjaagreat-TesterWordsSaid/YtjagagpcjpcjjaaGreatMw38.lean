/- Lemmas, each with its own conditions. -/
import Derived.Test.YtjagagpcjpcjjaaGreatMw26
import Derived.Test.YtjagagpcjpcjjaaGreatMw18
set_option maxRecDepth 100000
set_option maxHeartbeats 32000000
namespace Go.Proofs.YtjagagpcjpcjjaaGreat
open Tryz
open Go.RowKit Go.Shelf
attribute [local go_sem] Oper.semAt_some
def Ku (C:List (List Int)) (p x:List Int):List (List Int):=C.map fun t=>(p++x)++t
def kM (X C:List (List Int)) (p:List Int):List (List Int):=X.flatMap fun x=>Ku C p x
theorem fmS {α β:Type} {l:List α} {f:α->List β} {k:Nat} {x:α} (h:l[k]? =some x):(l.take (k+1)).flatMap f=(l.take k).flatMap f++f x:=by
 rw [dh,h,arE];simp
theorem Qa {C:List (List Int)} {p x t:List Int} {k:Nat} (h:C[k]? =some t):Ku (C.take (k+1)) p x=Ku (C.take k) p x++[(p++x)++t]:=by
 unfold Ku;rw [dh,h,eB];rfl
theorem Kv {X C:List (List Int)} {p x:List Int} {k:Nat} (h:X[k]? =some x):kM (X.take (k+1)) C p=kM (X.take k) C p++Ku C p x:=by unfold kM;exact fmS h
theorem aaT {α β:Type} (l:List α) (f:α->List β) (k:Nat):(l.take k).flatMap f<+:l.flatMap f:=by
 conv=>rhs;rw [<-fJ k l]
 rw [arE];exact List.prefix_append _ _
theorem aaU {A X C:List (List Int)} {u v t:List Int} {k k2 k3:Nat} (hu:A[k]? =some u) (hv:X[k2]? =some v) (ht:C[k3]? =some t):(((A.take k).flatMap (kM X C)++kM (X.take k2) C u)++Ku (C.take k3) u v)++[(u++v)++t]<+:A.flatMap (kM X C):=by
 have h1:=aaT A (kM X C) (k+1);rw [fmS hu] at h1;have h2:kM (X.take (k2+1)) C u<+:kM X C u:=aaT X (fun x=>Ku C u x) (k2+1);rw [Kv hv] at h2;have h3:Ku (C.take (k3+1)) u v<+:Ku C u v:=by
  unfold Ku;conv=>rhs;rw [<-fJ (k3+1) C]
  rw [eB];exact List.prefix_append _ _
 rw [Qa ht] at h3;rw [eH,eH];refine aso ?_ h1;rw [arF];refine aso ?_ h2;rw [arF];exact h3
def Sm7 (L:List (List Int)):Prop:=L.length<1000000/\∀r∈L,r.length<=1000000
theorem Sl.agy {α:Type} [GR α] {M:Nat->Prop} {w:World} {b off c:Nat} {l:List α} (h:Sl M w (some ⟨b,off,none⟩) c l) {j:Nat} (hj:j<l.length):¬M b:=by
 obtain ⟨b',off',cs,ha, -,hm, -⟩:=h.2.2 j l[j] (by simp [hj]);obtain rfl:b=b':=by simp at ha;exact ha.1
 exact hm
theorem Kw {n:Nat} (hn:1<=n) (l Bl B1 B2 B3:Nat) {MA MX MC:Nat->Prop} {aA aX aC:Option Addr} {cA cX cC:Nat} {A X C:List (List Int)} (J:List (List Int)->World->Prop) (Wb W:World) (hWb:Dr Wb.heap.size Bl Wb W) (hJb:∀K A B,J K A->Below A.heap.size A B->J K B) (hY:∀K (x:List Int) (ax:Option Addr) (cx:Nat) W0 W1,J K W0->Below W0.heap.size W0 W1->Sl (fun k=>k<W0.heap.size) W1 ax cx x->K++[x]<+:A.flatMap (kM X C)-> YieldAt Fence.wide (n-1) prog l #[.slice ax x.length cx] W1 fun e W'=>e= .returned (.bool true)/\J (K++[x]) W'/\Dr Wb.heap.size Bl W1 W') (h1:Wb.cell? ⟨B1,0,none⟩=some (.slice aA A.length cA)) (h2:Wb.cell? ⟨B2,0,none⟩=some (.slice aX X.length cX)) (h3:Wb.cell? ⟨B3,0,none⟩=some (.slice aC C.length cC)) (hb1:B1≠Bl) (hb2:B2≠Bl) (hb3:B3≠Bl) (hA:Sl MA Wb aA cA A) (hX:Sl MX Wb aX cX X) (hC:Sl MC Wb aC cC C) (mA:MA Bl) (mX:MX Bl) (mC:MC Bl) (sA:Hid (Sm7 A)) (sX:Hid (Sm7 X)) (sC:Hid (Sm7 C)) (h0:J [] W):CallsIn Fence.wide n prog 129 #[.func (.yield l) #[] #[],.pointer (some ⟨B1,0,none⟩),.pointer (some ⟨B2,0,none⟩),.pointer (some ⟨B3,0,none⟩)] W fun e W'=>(∃v,e= .returned v)/\J (A.flatMap (kM X C)) W':=by
 have HS:Hid (∀W',Dr Wb.heap.size Bl Wb W'->(W'.cell? ⟨B1,0,none⟩=some (.slice aA A.length cA)/\W'.cell? ⟨B2,0,none⟩=some (.slice aX X.length cX)/\W'.cell? ⟨B3,0,none⟩=some (.slice aC C.length cC))):=fun W' h=>
  ⟨h.cell (lt_of_cell h1) hb1 h1,h.cell (lt_of_cell h2) hb2 h2,h.cell (lt_of_cell h3) hb3 h3⟩
 have HA:=bK hA;have HX:=bK hX;have HC:=bK hC;have la:=hA.le;have lx:=hX.le;have lc:=hC.le;have HJb:=bK hJb;have HY:=bK hY;obtain ⟨c1, -, -⟩:=HS.out _ hWb;clear hA hX hC h1 h2 h3 hJb hY;refine ash func129 rfl trivial ?_ rfl;simp only [ntmps129,aqS,fD,ap6,Nat.reduceAdd,Nat.reduceSub,aqB,aqC,aqT,aqL,gJ,gu];gi_wp2
 gi_loopw [13] (fun i wr=>∃k:Nat,k<=A.length/\i= .int .i64 k/\Hid (J ((A.take k).flatMap (kM X C)) wr)/\Dr Wb.heap.size Bl Wb wr) (fun i _=>A.length-(intOf i).toNat)
 case atStart=>exact ⟨0,ap1 _,rfl,h0,hWb⟩
 case round=>
  obtain ⟨k,hk,rfl,hJ,hB⟩:=hrel;obtain ⟨wo,rfl⟩:=iA wr;by_cases hlt:k<A.length
  ·obtain ⟨bA,oA,au,u,cu,rfl,agz,hu,agA⟩:=HA.out.iD hlt;have huc:=hB.cell (lt_of_cell agz) (fun e=>(HA.out).agy hlt (e▸mA)) agz;have HU:=bK agA;have hul:=bK (sA.out.2 u (bV hu.out));have apv:=agA.le;obtain ⟨-,c2, -⟩:=HS.out _ hB;have hJ0:Hid (J ((A.take k).flatMap (kM X C)++kM (X.take 0) C u) wo):=bK (by rw [asc];unfold kM;rw [List.flatMap_nil,gD];exact hJ.out);clear agz agA;gi_wp2
   gi_loopw [19] (fun i wr=>∃k2:Nat,k2<=X.length/\i= .int .i64 k2/\Hid (J ((A.take k).flatMap (kM X C)++kM (X.take k2) C u) wr)/\Dr Wb.heap.size Bl Wb wr) (fun i _=>X.length-(intOf i).toNat)
   case atStart=>exact ⟨0,ap1 _,rfl,hJ0,hB⟩
   case round=>
    clear hJ hB hJ0 huc c2;obtain ⟨k2,hk2,rfl,hJ,hB⟩:=hrel;obtain ⟨wo,rfl⟩:=iA wr;by_cases ni:k2<X.length
    ·obtain ⟨bX,oX,av,v,cv,rfl,agB,hv,agC⟩:=HX.out.iD ni;have EA:=hB.cell (lt_of_cell agB) (fun e=>(HX.out).agy ni (e▸mX)) agB;have HV:=bK agC;have hvl:=bK (sX.out.2 v (bV hv.out));have apw:=agC.le;obtain ⟨-, -,c3⟩:=HS.out _ hB;have hJ0:Hid (J (((A.take k).flatMap (kM X C)++kM (X.take k2) C u)++Ku (C.take 0) u v) wo):=bK (by rw [asc];unfold Ku;rw [ap7,gD];exact hJ.out);clear agB agC;gi_wp2
     gi_loopw [25] (fun i wr=>∃k3:Nat,k3<=C.length/\i= .int .i64 k3/\Hid (J (((A.take k).flatMap (kM X C)++kM (X.take k2) C u)++Ku (C.take k3) u v) wr)/\Dr Wb.heap.size Bl Wb wr) (fun i _=>C.length-(intOf i).toNat)
     case atStart=>exact ⟨0,ap1 _,rfl,hJ0,hB⟩
     case round=>
      clear hJ hB hJ0 EA c3;obtain ⟨k3,hk3,rfl,hJ,hB⟩:=hrel;obtain ⟨wo,rfl⟩:=iA wr;by_cases wP:k3<C.length
      ·obtain ⟨bC,oC,at',t,ct,rfl,agD,ht,agE⟩:=HC.out.iD wP;have htc:=hB.cell (lt_of_cell agD) (fun e=>(HC.out).agy wP (e▸mC)) agD;have htl:=bK (sC.out.2 t (bV ht.out));have apx:=agE.le;have wX:=hB.1;have hr:=aia (T:=49) (hB.sl mA HU.out) (hB.sl mX HV.out) (hB.sl mC agE) rfl (m:=v.length) rfl (k:=t.length) rfl;have HJo:=bK (uM hr (by have:=hul.out;have:=hvl.out;have:=htl.out;rw [flat3];simp;omega));have hba:=iB wo (.cells #[.slice au u.length cu,.slice av v.length cv,.slice at' t.length ct] 49);clear agD agE hr;gi_wp2_with fail
       refine ⟨trivial,(callsIn_wide.2 HJo.out).mono ?_⟩;rintro e w4 ⟨a4,c4,x4,rfl,hx4,hs4,hb4⟩;have ajt:Hid (x4=(u++v)++t):=bK (by rw [hx4.out,flat3,eH]);have hbw:=hba.trans (hb4.mono hba.size);have hsw:=hs4.anti (M':=fun k=>k<wo.heap.size) (fun k _ e=>by simp;omega);obtain ⟨fn,tmps,assign,body,hy,hR⟩:=HY.out _ x4 a4 c4 wo w4 hJ.out hbw hsw (by rw [ajt.out];exact aaU hu.out hv.out ht.out);have hB4:=hB.trans (Dr.of_below hbw wX);clear HJo hba hs4 hb4 hbw hsw htc hB;gi_wp2
       refine hR.mono ?_;rintro e W5 ⟨rfl,hJ5,hk5⟩;have hJ2:Hid (J (((A.take k).flatMap (kM X C)++kM (X.take k2) C u)++Ku (C.take (k3+1)) u v) W5):=bK (by rw [Qa ht.out,<-eH,<-ajt.out];exact hJ5);gi_wp2
       go_roundw;case rel=>exact ⟨k3+1,ah,aH,hJ2,hB4.trans hk5⟩
       case measure=>exact bF
      have hJ2:Hid (J ((A.take k).flatMap (kM X C)++kM (X.take (k2+1)) C u) wo):=by have h:=hJ.out;rw [bY (l:=C) ah] at h;unfold Hid;rw [Kv hv.out,<-eH];exact h
      gi_wp2
      go_roundw;case rel=>exact ⟨k2+1,ah,aH,hJ2,hB⟩
      case measure=>exact bF
    have hJ2:Hid (J ((A.take (k+1)).flatMap (kM X C)) wo):=by have h:=hJ.out;rw [bY (l:=X) ah] at h;unfold Hid;rw [fmS hu.out];exact h
    gi_wp2
    go_roundw;case rel=>exact ⟨k+1,ah,aH,hJ2,hB⟩
    case measure=>exact bF
  have hJf:J (A.flatMap (kM X C)) wo:=by have h:=hJ.out;rw [bY ah] at h;exact h
  gi_wp2
  go_end0
  exact ⟨⟨_,rfl⟩,hJf⟩
theorem Ky {w:World} {aA aX aC:Option Addr} {nA nX nC cA cX cC:Nat}:Calls prog 76 #[.slice aA nA cA,.slice aX nX cX,.slice aC nC cC] w fun e w'=> e= .returned (.func (.func 129) #[] #[.pointer (some ⟨w.heap.size,0,none⟩),.pointer (some ⟨w.heap.size+1,0,none⟩),.pointer (some ⟨w.heap.size+1+1,0,none⟩)])/\ w'=((w.alloc (.cells #[.slice aA nA cA] 22)).alloc (.cells #[.slice aX nX cX] 22)).alloc (.cells #[.slice aC nC cC] 22):=by
 have hmf:∀(fn:Fn) (first cap:Array Value) (w:World),(Instr.makeFunc fn first cap).run prog w= .ok (.func fn first cap) w:=fun _ _ _ _=>rfl;go_enter func76,ntmps76;go_wp2;go_ret;exact ⟨rfl,rfl⟩
