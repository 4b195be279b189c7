/- Lemmas, each with its own conditions. -/
import Derived.Test.YtjagagpcjpcjjaaGreatMw33
import Derived.Test.YtjagagpcjpcjjaaGreatMw22
set_option maxRecDepth 100000
set_option maxHeartbeats 32000000
namespace Go.Proofs.YtjagagpcjpcjjaaGreat
open Tryz
open Go.RowKit
section
variable {M M':Nat->Prop} {w:World} {an ao a:Option Addr} {cn co c s t:Nat} {m:g_}
theorem aju (ok:m.Ok) (hs:s<m.h_.length):m.jq (s:Int)=0:=by
 unfold g_.jq;rw [bO (by simp [g_.oM _ ok]),bO ah]
theorem GI {l:List Int} (hm:Ma M w an cn ao co m) (hw:Sl M' w a c l) (ok:Hid m.Ok) (hs:s<m.h_.length) (Dl:Hid (jI l m.gZ=0)):Calls prog 233 #[kF m an cn ao co,.int .i64 s,.slice a l.length c] w fun e w'=>∃(a':Option Addr) (c':Nat) (l':List Int),e= .returned (.slice a' l'.length c')/\Hid (l'=m.iY (s:Int) l)/\Sl (fun k=>k<w.heap.size) w' a' c' l'/\Below w.heap.size w w':=by
 have hB0:=iB w (iP m an cn ao co);have hx0:=jE w m an cn ao co;have l1:=hm.h_.le;have l2:=hm.out.le;have l3:=hw.le;obtain ⟨-,h2, -⟩:=g_.yC (aju ok.out hs) Dl.out;have hF:Hid (m.uL (s:Int) l=m.iY (s:Int) l):=h2;have Rw:=JV (hm.below hB0) (hw.below hB0) (s:Int);generalize m.AO (s:Int) l=x1 at Rw;generalize m.sG (s:Int) l=x2 at Rw;have HC:=bK Rw;clear hm hw Rw h2;obtain ⟨d0,d1,d2,d3⟩:=hx0;go_enter func233,ntmps233;go_wp2_with fail;generalize w.alloc (iP m an cn ao co)=w0 at*
 refine (HC.out).mono ?_;rintro e w1 ⟨a1,c1,l',rfl,hl1,hs1,hb1⟩;have jh:=hB0.trans (hb1.mono hB0.size);have wI:=hs1.anti (M':=fun k=>k<w.heap.size) fun k _ hm=>by have:=hB0.size;show k<_;omega
 have YM:Hid (l'=m.iY (s:Int) l):=bK (by rw [hl1.out,hF.out]);clear HC hb1 hs1 hl1;go_wp2;go_ret;exact ⟨a1,c1,l',rfl,YM,wI,jh⟩
theorem wJ {l:List Int} (hm:Ma M w an cn ao co m) (hw:Sl M' w a c l) (ok:Hid m.Ok) (hs:s<m.h_.length) (ht:t<m.h_.length) (Dl:Hid (jI l m.gZ=0)) {v:Bool} (hv:Mi m s t l=v):Calls prog 191 #[kF m an cn ao co,.int .i64 s,.int .i64 t,.slice a l.length c] w fun e w'=>e= .returned (.bool v)/\Below w.heap.size w w':=by
 have hB0:=iB w (iP m an cn ao co);have hx0:=jE w m an cn ao co;have hz0:(w.alloc (iP m an cn ao co)).heap.size=w.heap.size+1:=aH;have HM:=bK (hm.below hB0);have HW:=bK (hw.below hB0);have HV:=bK hv;have l1:=hm.h_.le;have l2:=hm.out.le;have l3:=hw.le;clear hm hw hv;go_enter func191,ntmps191;go_upto_region 1 with (fail);generalize w.alloc (iP m an cn ao co)=w0 at*
 have HS:Hid (∀w',Below w0.heap.size w0 w'->C4 w' w.heap.size an cn ao co m/\Ma M w' an cn ao co m/\Sl M' w' a c l/\Below w.heap.size w w'):=fun w' h=>
  ⟨hx0.below h ah,HM.out.below h,HW.out.below h,hB0.trans (h.mono ah)⟩
 clear hx0;refine iL (fun w'=>C4 w' w.heap.size an cn ao co m) [0,1,2,4,5,6,9,10] aB ?_;have hB1:=(bP w0.heap.size w0).drew;have hS1:=(HS.out _ hB1).1;generalize w0.drew=w1 at*
 have HO:=bK (GI (HS.out _ hB1).2.1 (HS.out _ hB1).2.2.1 ok hs Dl);refine iZ [0,1,2,4,5,6] ?_;refine iK 3 fun K hK=> ?_;go_simp;refine (HO.out).mono ?_;rintro e w2 ⟨a2,c2,l2',rfl,hl2,hs2,hb2⟩;have hB2:=hB1.trans (hb2.mono hB1.size);have hS2:=(HS.out _ hB2).1;have HL2:=bK (hs2.anti (M':=fun _=>False) fun _ _ h=>h.elim);have Xz:=hs2.le;refine hK _ _ (fun _=>hS2) ?_;clear hK K HO hS1 hs2 hb2 hB1;have HO:=bK (GI (HS.out _ hB2).2.1 (HS.out _ hB2).2.2.1 ok ht Dl);refine iK 7 fun K hK=> ?_;go_simp;refine (HO.out).mono ?_;rintro e w3 ⟨a3,c3,l3',rfl,hl3,hs3,hb3⟩;have hB3:=hB2.trans (hb3.mono hB2.size);have kC:=(HS.out _ hB3).1;have HL3:=bK (hs3.anti (M':=fun _=>False) fun _ _ h=>h.elim);have agr:=bK (HL2.out.below hb3);have amH:=hs3.le;have Ru:=BS agr.out HL3.out;have hev:decide (l2'=l3')= !v:=by rw [hl2.out,hl3.out,<-HV.out];unfold Mi;by_cases e:m.iY (s:Int) l=m.iY (t:Int) l<;>simp [e]
 rw [hev] at Ru;have HE:=bK Ru;refine hK _ _ (fun _=>kC) ?_;clear hK K HO hS2 hs3 hb3 hB2 Ru hev;refine iK 8 fun K hK=> ?_;go_simp;refine (HE.out).mono ?_;rintro e w4 ⟨rfl,n4,rfl⟩;have hB4:=iF hB3 n4;have ku:=(HS.out _ hB4).1;have jh:=(HS.out _ hB4).2.2.2;refine hK _ _ (fun _=>ku) ?_;clear hK K HE kC hB3;generalize w3.drewN n4=w4 at*
 refine iZ [9,10] ?_;refine iH aB ?_ _;clear ku;go_wp2;go_ret;exact ⟨aH,jh⟩
theorem GJ {L:List (List Int)} (hm:Ma M w an cn ao co m) (hL:Sl M' w a c L) (ok:Hid m.Ok) (hs:s<m.h_.length) (ht:t<m.h_.length) (hok:Hid (∀l∈L,jI l m.gZ=0)) {v:Bool} (hv:L.any (Mi m s t)=v):Calls prog 149 #[kF m an cn ao co,.int .i64 s,.int .i64 t,.slice a L.length c] w fun e w'=>e= .returned (.bool v)/\Below w.heap.size w w':=by
 have hB0:=iB w (iP m an cn ao co);have hx0:=jE w m an cn ao co;have hz0:(w.alloc (iP m an cn ao co)).heap.size=w.heap.size+1:=aH;have HM:=bK (hm.below hB0);have HL:=bK (hL.below hB0);have HV:=bK hv;have l1:=hm.h_.le;have l2:=hm.out.le;have l3:=hL.le;have hT0:Hid ((L.take 0).any (Mi m s t)=false):=rfl;clear hm hL hv;go_enter func149,ntmps149;go_upto_region 1 with (fail);generalize w.alloc (iP m an cn ao co)=w0 at*
 have HS:Hid (∀w',Below w0.heap.size w0 w'->C4 w' w.heap.size an cn ao co m/\Ma M w' an cn ao co m/\Sl M' w' a c L/\Below w.heap.size w w'):=fun w' h=>
  ⟨hx0.below h ah,HM.out.below h,HL.out.below h,hB0.trans (h.mono ah)⟩
 have sO:=bP w0.heap.size w0;clear hx0 hB0;go_wp2;go_loopw [9] (fun i wr=>∃k:Nat,k<=L.length/\i= .int .i64 k/\Hid ((L.take k).any (Mi m s t)=false)/\Below w0.heap.size w0 wr) (fun i _=>L.length-(intOf i).toNat);case atStart=>exact ⟨0,ah,rfl,hT0,sO⟩
 case round=>
  clear hT0 sO;obtain ⟨k,hk,rfl,hT,hB⟩:=hrel;obtain ⟨wo,rfl⟩:=iA wr;have wX:=hB.size;by_cases hlt:k<L.length
  ·have hSo:=HS.out _ hB;obtain ⟨bL,oL,ax,x,cx,rfl,hxc,hx,hxs⟩:=hSo.2.2.1.iD hlt;have hxw:=bK (hok.out x (bV hx.out));have aaO:=hxs.le;have hS0:=And.intro hSo.1 hxc;cases hq:Mi m s t x with
   |true=>
    have Rw:Hid (∀w',Below wo.heap.size wo w'->Calls prog 191 #[kF m an cn ao co,.int .i64 s,.int .i64 t,.slice ax x.length cx] w' fun e w''=>e= .returned (.bool true)/\Below w'.heap.size w' w''):=fun w' h=>
     wJ (hSo.2.1.below h) (hxs.below h) ok hs ht hxw hq
    have hvt:v=true:=by rw [<-HV.out];exact List.any_eq_true.2 ⟨x,bV hx.out,hq⟩
    subst hvt;clear hxs hq hSo hxc;go_upto_region 4 with (fail);refine iL (fun w'=>C4 w' w.heap.size (an) cn ao co m/\w'.cell? ⟨bL,oL+k,none⟩=some (.slice ax x.length cx)) [0,1,2,3,4,5,6] aB ?_;have hbd:=(bP wo.heap.size wo).drew;have hS1:C4 wo.drew w.heap.size an cn ao co m/\wo.drew.cell? ⟨bL,oL+k,none⟩=some (.slice ax x.length cx):=hS0;have HC:=bK (Rw.out _ hbd);have hB1:=hB.trans (hbd.mono hB.size);clear hS0 hbd hB;generalize wo.drew=w1 at*
    refine iZ [0,1,2,3,4,5,6] ?_;refine iK 7 fun K hK=> ?_;go_simp;refine (HC.out).mono ?_;rintro e w2 ⟨rfl,hb2⟩;have hB2:=hB1.trans (hb2.mono hB1.size);have jh:=(HS.out _ hB2).2.2.2;refine hK _ _ (fun _=>And.intro (HS.out _ hB2).1 ((hb2.cell (p:=⟨bL,oL+k,none⟩) (lt_of_cell hS1.2)).trans hS1.2)) ?_;clear hK K HC;refine iH aB ?_ _;go_wp2;go_ret;exact ⟨rfl,jh⟩
   |false=>
    have Rw:Hid (∀w',Below wo.heap.size wo w'->Calls prog 191 #[kF m an cn ao co,.int .i64 s,.int .i64 t,.slice ax x.length cx] w' fun e w''=>e= .returned (.bool false)/\Below w'.heap.size w' w''):=fun w' h=>
     wJ (hSo.2.1.below h) (hxs.below h) ok hs ht hxw hq
    have Om:Hid ((L.take (k+1)).any (Mi m s t)=false):=bK (by rw [dh,hx.out,ar2,hT.out];simp [hq]);clear hxs hq hSo hxc;go_upto_region 4 with (fail);refine iL (fun w'=>C4 w' w.heap.size (an) cn ao co m/\w'.cell? ⟨bL,oL+k,none⟩=some (.slice ax x.length cx)) [0,1,2,3,4,5,6] aB ?_;have hbd:=(bP wo.heap.size wo).drew;have hS1:C4 wo.drew w.heap.size an cn ao co m/\wo.drew.cell? ⟨bL,oL+k,none⟩=some (.slice ax x.length cx):=hS0;have HC:=bK (Rw.out _ hbd);have hB1:=hB.trans (hbd.mono hB.size);clear hS0 hbd hB;generalize wo.drew=w1 at*
    refine iZ [0,1,2,3,4,5,6] ?_;refine iK 7 fun K hK=> ?_;go_simp;refine (HC.out).mono ?_;rintro e w2 ⟨rfl,hb2⟩;have hB2:=hB1.trans (hb2.mono hB1.size);refine hK _ _ (fun _=>And.intro (HS.out _ hB2).1 ((hb2.cell (p:=⟨bL,oL+k,none⟩) (lt_of_cell hS1.2)).trans hS1.2)) ?_;clear hK K HC hb2 hB1 hS1;refine iH aB ?_ _;go_wp2;go_roundw;case rel=>exact ⟨k+1,ah,by go_num,Om,hB2⟩
    case measure=>exact bF
  have hvf:v=false:=by rw [<-HV.out];have h:=hT.out;rwa [bY ah] at h
  subst hvf;have jh:=(HS.out _ hB).2.2.2;go_wp2;go_ret;exact ⟨rfl,jh⟩
end
