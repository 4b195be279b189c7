/- Several texts, one behind the other. Conditions: as each of them says. -/
import Derived.Test.YtjmbphjgiodioaaGreatDoorMv19
import Derived.Test.YtjmbphjgiodioaaGreatDoorMv15
import Derived.Test.YtjmbphjgiodioaaGreatDoorMv7
import Derived.Test.YtjmbphjgiodioaaGreatDoorMv4
import Derived.Test.YtjmbphjgiodioaaGreatDoorMv3
set_option maxRecDepth 100000
set_option maxHeartbeats 32000000
namespace Go.Proofs.YtjmbphjgiodioaaGreatDoor
open Go.RowKit
namespace Hy
variable (h:Hy)
def ac (s:Nat):List Int:=h.acc.getD s []
def stErr (s:Nat):Int:=if wErr (h.ac s) h.m.inputs≠0 then wErr (h.ac s) h.m.inputs else if h.m.endW h.m.start (h.ac s)≠s then 15 else 0
def stsErr:Nat→Int
 |0=>0
 |k+1=>if stsErr k=0 then h.stErr k else stsErr k
def err:Int:=
 if h.m.err≠0 then h.m.err
 else if h.acc.length≠h.m.next.length then 1
 else if h.stsErr h.acc.length≠0 then h.stsErr h.acc.length
 else if (h.ac h.m.start.toNat).length≠0 then 10 else 0
variable {h}
theorem stsErr_stop {k n:Nat} (hk:k≤n) (e:h.stsErr k≠0):h.stsErr n=h.stsErr k:=by
 induction n with
 | zero => obtain rfl : k = 0 := by omega
           rfl
 |succ n ih=>
  by_cases e2:k=n+1
  ·rw [e2]
  have:=ih (by omega)
  show (if h.stsErr n=0 then _ else _)=_
  rw [this,if_neg e]
theorem err_cases:(h.m.err≠0∧h.err=h.m.err)∨(h.m.err=0∧h.acc.length≠h.m.next.length∧h.err=1)∨
    (h.m.err=0∧h.acc.length=h.m.next.length∧h.err=(if h.stsErr h.acc.length≠0 then h.stsErr h.acc.length else if (h.ac h.m.start.toNat).length≠0 then 10 else 0)):=by
 unfold err
 by_cases h1:h.m.err=0
 ·by_cases h2:h.acc.length=h.m.next.length
  ·exact .inr (.inr ⟨h1,h2,by rw [if_neg (by simp [h1]),if_neg (by simp [h2])]⟩)
  exact .inr (.inl ⟨h1,h2,by rw [if_neg (by simp [h1]),if_pos h2]⟩)
 exact .inl ⟨h1,by rw [if_pos h1]⟩
theorem ac_of {s:Nat} {w:List Int} (e:h.acc[s]? =some w):h.ac s=w:=getD_of_some e
structure Ok (h:Hy):Prop where
 m:h.m.Ok
 len:h.acc.length=h.m.next.length
 word:∀s,s<h.acc.length→wErr (h.ac s) h.m.inputs=0∧h.m.endW h.m.start (h.ac s)=s
 start:h.ac h.m.start.toNat=[]
end Hy
section
variable {M:Nat→Prop} {w:World} {an ao ac:Option Addr} {cn co cc:Nat} {h:Hy}
theorem hvalidR_any (hh:Hp M w an cn ao co ac cc h):
    Calls Tryz.prog 43 #[hyV h an cn ao co ac cc] w fun e w'=>e= .returned (.int .i64 h.err)∧Below w.heap.size w w':=by
 have l1:=hh.acc.le
 have l2:=hh.m.next.le
 have HH:=Lib.hid hh
 have hB0:=(Below.refl w.heap.size w).alloc (Nat.le_refl _) (hyO h an cn ao co ac cc)
 have hx0:H5 (w.alloc (hyO h an cn ao co ac cc)) w.heap.size an cn ao co ac cc h:=h5_new w
 have hz0:w.heap.size+1≤(w.alloc (hyO h an cn ao co ac cc)).heap.size:=by simp
 have HC:=Lib.hid (valid6_any (HH.out.below hB0).m)
 clear hh
 rcases Hy.err_cases (h:=h) with ⟨h1,he⟩|⟨h1,h2,he⟩|⟨h1,h2,he⟩
 ·have h1b:(h.m.err !=0)=true:=by simp [h1]
  have HF:=Lib.hid he
  clear he h1
  go_enter Tryz.func43,Tryz.ntmps43
  go_wp2_with fail
  generalize w.alloc (hyO h an cn ao co ac cc)=w0 at*
  refine (HC.out).mono ?_
  rintro e w1 ⟨rfl,hb1⟩
  have hB1:=hB0.trans (hb1.mono (by omega))
  go_wp2
  go_ret
  exact ⟨ret_ij HF.out.symm,hB1⟩
 ·have h1b:(h.m.err !=0)=false:=by simp [h1]
  have h2b:(((h.acc.length:Nat):Int) !=((h.m.next.length:Nat):Int))=true:=by simp;omega
  have HF:=Lib.hid he
  clear he h1 h2
  go_enter Tryz.func43,Tryz.ntmps43
  go_wp2_with fail
  generalize w.alloc (hyO h an cn ao co ac cc)=w0 at*
  refine (HC.out).mono ?_
  rintro e w1 ⟨rfl,hb1⟩
  have hB1:=hB0.trans (hb1.mono (by omega))
  have hx1:=hx0.below hb1 (by omega)
  go_wp2
  go_ret
  exact ⟨ret_ij HF.out.symm,hB1⟩
 have h1b:(h.m.err !=0)=false:=by simp [h1]
 have h2b:(((h.acc.length:Nat):Int) !=((h.m.next.length:Nat):Int))=false:=by simp [h2]
 have HF:=Lib.hid he
 have ok:=h.m.ok_of_err h1
 have n1:=ok.n1
 have i1:=ok.i1
 have OK:=Lib.hid ok
 have H2:=Lib.hid h2
 clear he h1 h2 ok
 go_enter Tryz.func43,Tryz.ntmps43
 go_wp2_with fail
 generalize w.alloc (hyO h an cn ao co ac cc)=w0 at*
 refine (HC.out).mono ?_
 rintro e w1 ⟨rfl,hb1⟩
 have hB1:=hB0.trans (hb1.mono (by omega))
 have hx1:=hx0.below hb1 (by omega)
 have hz1:w.heap.size+1≤w1.heap.size:=by have:=hb1.size;omega
 clear HC hb1 hB0 hx0 hz0
 go_wp2
 go_loopw [4] (fun i wr=>∃k:Nat,k≤h.acc.length∧i= .int .i64 k∧Hid (h.stsErr k=0)∧H5 wr w.heap.size an cn ao co ac cc h∧Below w.heap.size w wr∧w.heap.size+1≤wr.heap.size) (fun i _=>h.acc.length-(intOf i).toNat)
 case atStart=>exact ⟨0,by omega,rfl,rfl,hx1,hB1,hz1⟩
 case round=>
  clear hx1 hB1 hz1
  obtain ⟨k,hk,rfl,hE,hx,hB,hz⟩:=hrel
  obtain ⟨w2,rfl⟩:∃w2:World,w2=wr:=⟨_,rfl⟩
  by_cases hlt:k<h.acc.length
  ·obtain ⟨b1,o1,a1,r,c1,rfl,hc1,hr,hs1⟩:=(HH.out.below hB).acc.at_row hlt
   have HC:=Lib.hid (checkR1_any hs1 h.m.inputs)
   have hsu:Hid (h.stsErr (k+1)=h.stErr k):=by unfold Hid;show (if h.stsErr k=0 then h.stErr k else h.stsErr k)=_;rw [hE.out,if_pos rfl]
   have hst:Hid (h.stErr k=if wErr r h.m.inputs≠0 then wErr r h.m.inputs else if h.m.endW h.m.start r≠k then 15 else 0):=by unfold Hid Hy.stErr;rw [Hy.ac_of hr.out]
   have HST:Hid (∀e,e≠0→h.stErr k=e→h.err=e):=fun e h1 h2=>by
    have h3:h.stsErr h.acc.length=e:=by rw [Hy.stsErr_stop (k:=k+1) (by omega) (by rw [hsu.out,h2];exact h1),hsu.out,h2]
    rw [HF.out,if_pos (by rw [h3];exact h1),h3]
   have hle:=hs1.le
   have HS:=Lib.hid hs1
   clear hs1 hE HF
   by_cases hw:wErr r h.m.inputs=0
   ·have hwb:(wErr r h.m.inputs !=0)=false:=by simp [hw]
    have hoks:=Mach.okS_of hw
    have hst:Hid (h.stErr k=if h.m.endW h.m.start r≠k then 15 else 0):=by have:=hst.out;rw [if_neg (by simp [hw])] at this;exact this
    have HO:=Lib.hid (outsR_any (HH.out.below hB).m HS.out OK (Lib.hid ⟨OK.out.s0,OK.out.s1⟩) (Lib.hid hoks.1) (by omega))
    clear hw hoks
    by_cases he:h.m.endW h.m.start r=k
    ·have heb:(h.m.endW h.m.start r !=((k:Nat):Int))=false:=by simp [he]
     have hE2:Hid (h.stsErr (k+1)=0):=by unfold Hid;rw [hsu.out,hst.out,if_neg (by simp [he])]
     clear he hst hsu HST
     go_wp2_with fail
     refine (HC.out).mono ?_
     rintro e w3 ⟨rfl,hw3⟩
     obtain rfl:w2=w3:=hw3.symm
     clear HC
     go_wp2_with fail
     refine (HO.out).mono ?_
     rintro e w3 ⟨a3,c3,l3,rfl, -, -,hb3⟩
     have hx3:=hx.below hb3 (by omega)
     have hB3:=hB.trans (hb3.mono (by omega))
     have hz3:w.heap.size+1≤w3.heap.size:=by have:=hb3.size;omega
     clear HO hx hB hz hb3
     go_wp2
     go_roundw
     case rel=>exact ⟨k+1,by omega,by go_num,hE2,hx3,hB3,hz3⟩
     case measure=>simp [intOf];omega
    have heb:(h.m.endW h.m.start r !=((k:Nat):Int))=true:=by simp [he]
    have HF:=Lib.hid (HST.out 15 (by decide) (by rw [hst.out,if_pos he]))
    clear he hst hsu HST
    go_wp2_with fail
    refine (HC.out).mono ?_
    rintro e w3 ⟨rfl,hw3⟩
    obtain rfl:w2=w3:=hw3.symm
    clear HC
    go_wp2_with fail
    refine (HO.out).mono ?_
    rintro e w3 ⟨a3,c3,l3,rfl, -, -,hb3⟩
    have hB3:=hB.trans (hb3.mono (by omega))
    clear HO hx hB hz hb3
    go_wp2
    go_ret
    exact ⟨ret_ij HF.out.symm,hB3⟩
   have hwb:(wErr r h.m.inputs !=0)=true:=by simp [hw]
   have HF:=Lib.hid (HST.out _ hw (by rw [hst.out,if_pos hw]))
   clear hw hst hsu HST
   go_wp2_with fail
   refine (HC.out).mono ?_
   rintro e w3 ⟨rfl,hw3⟩
   obtain rfl:w2=w3:=hw3.symm
   clear HC
   go_wp2
   go_ret
   exact ⟨ret_ij HF.out.symm,hB⟩
  have e:k=h.acc.length:=by omega
  have hz0:Hid (h.stsErr h.acc.length=0):=by unfold Hid;rw [←e];exact hE.out
  have s0:=OK.out.s0
  obtain ⟨sn,hsn⟩:=Int.eq_ofNat_of_zero_le s0
  have hs1:sn<h.acc.length:=by have:=OK.out.s1;have:=H2.out;omega
  obtain ⟨b1,o1,a1,r,c1,rfl,hc1,hr,hs1'⟩:=(HH.out.below hB).acc.at_row hs1
  have hle:=hs1'.le
  have hF2:Hid (h.err=if r.length≠0 then 10 else 0):=by
   unfold Hid;rw [HF.out,if_neg (by simp [hz0.out]),hsn,Int.toNat_natCast,Hy.ac_of hr.out]
  have hx':H5 w2 w.heap.size an cn ao co (some ⟨b1,o1,none⟩) cc h:=hx
  have hst:w2.cell? ⟨w.heap.size,1,none⟩=some (.int .i64 ((sn:Nat):Int)):=by rw [←hsn];exact hx.1.2.1
  obtain ⟨⟨hx1, -,hx2,hx3⟩,hx4⟩:=hx'
  clear hx hs1' HF e s0
  by_cases hr0:r.length=0
  ·have hrb:decide (0<((r.length:Nat):Int))=false:=by simp [hr0]
   have HF:=Lib.hid (show h.err=0 by rw [hF2.out,if_neg (by simp [hr0])])
   have hr1:¬0<r.length:=by omega
   clear hF2 hr0 hsn
   go_wp2
   go_ret
   exact ⟨ret_ij HF.out.symm,hB⟩
  have hrb:decide (0<((r.length:Nat):Int))=true:=by simp;omega
  have HF:=Lib.hid (show h.err=10 by rw [hF2.out,if_pos hr0])
  have hr1:0<r.length:=by omega
  clear hF2 hr0 hsn
  go_wp2
  go_ret
  exact ⟨ret_ij HF.out.symm,hB⟩
theorem start_ok {m:Mach} (ok:m.Ok):m.stErr m.start=0:=by
 unfold Mach.stErr
 rw [if_neg (by simp [m.err_of_ok ok]),if_neg (by have:=ok.s0;have:=ok.s1;omega)]
theorem hvalid_any (hh:Hp M w an cn ao co ac cc h):
    Calls Tryz.prog 39 #[hyV h an cn ao co ac cc] w fun e w'=>e= .returned (.int .i64 h.err)∧Below w.heap.size w w':=by
 have l1:=hh.acc.le
 have l2:=hh.m.next.le
 have HH:=Lib.hid hh
 have hB0:=(Below.refl w.heap.size w).alloc (Nat.le_refl _) (hyO h an cn ao co ac cc)
 have hx0:H5 (w.alloc (hyO h an cn ao co ac cc)) w.heap.size an cn ao co ac cc h:=h5_new w
 have hz0:w.heap.size+1≤(w.alloc (hyO h an cn ao co ac cc)).heap.size:=by simp
 have HC:=Lib.hid (valid_any (HH.out.below hB0).m)
 clear hh
 rcases Hy.err_cases (h:=h) with ⟨h1,he⟩|⟨h1,h2,he⟩|⟨h1,h2,he⟩
 ·have h1b:(h.m.err !=0)=true:=by simp [h1]
  have HF:=Lib.hid he
  clear he h1
  go_enter Tryz.func39,Tryz.ntmps39
  go_wp2_with fail
  generalize w.alloc (hyO h an cn ao co ac cc)=w0 at*
  refine (HC.out).mono ?_
  rintro e w1 ⟨rfl,hb1⟩
  have hB1:=hB0.trans (hb1.mono (by omega))
  go_wp2
  go_ret
  exact ⟨ret_ij HF.out.symm,hB1⟩
 ·have h1b:(h.m.err !=0)=false:=by simp [h1]
  have h2b:(((h.acc.length:Nat):Int) !=((h.m.next.length:Nat):Int))=true:=by simp;omega
  have HF:=Lib.hid he
  clear he h1 h2
  go_enter Tryz.func39,Tryz.ntmps39
  go_wp2_with fail
  generalize w.alloc (hyO h an cn ao co ac cc)=w0 at*
  refine (HC.out).mono ?_
  rintro e w1 ⟨rfl,hb1⟩
  have hB1:=hB0.trans (hb1.mono (by omega))
  have hx1:=hx0.below hb1 (by omega)
  go_wp2
  go_ret
  exact ⟨ret_ij HF.out.symm,hB1⟩
 have h1b:(h.m.err !=0)=false:=by simp [h1]
 have h2b:(((h.acc.length:Nat):Int) !=((h.m.next.length:Nat):Int))=false:=by simp [h2]
 have HF:=Lib.hid he
 have ok:=h.m.ok_of_err h1
 have n1:=ok.n1
 have i1:=ok.i1
 have OK:=Lib.hid ok
 have H2:=Lib.hid h2
 clear he h1 h2 ok
 go_enter Tryz.func39,Tryz.ntmps39
 go_wp2_with fail
 generalize w.alloc (hyO h an cn ao co ac cc)=w0 at*
 refine (HC.out).mono ?_
 rintro e w1 ⟨rfl,hb1⟩
 have hB1:=hB0.trans (hb1.mono (by omega))
 have hx1:=hx0.below hb1 (by omega)
 have hz1:w.heap.size+1≤w1.heap.size:=by have:=hb1.size;omega
 clear HC hb1 hB0 hx0 hz0
 go_wp2
 go_loopw [26] (fun i wr=>∃k:Nat,k≤h.acc.length∧i= .int .i64 k∧Hid (h.stsErr k=0)∧H5 wr w.heap.size an cn ao co ac cc h∧Below w.heap.size w wr∧w.heap.size+1≤wr.heap.size) (fun i _=>h.acc.length-(intOf i).toNat)
 case atStart=>exact ⟨0,by omega,rfl,rfl,hx1,hB1,hz1⟩
 case round=>
  clear hx1 hB1 hz1
  obtain ⟨k,hk,rfl,hE,hx,hB,hz⟩:=hrel
  obtain ⟨w2,rfl⟩:∃w2:World,w2=wr:=⟨_,rfl⟩
  by_cases hlt:k<h.acc.length
  ·obtain ⟨b1,o1,a1,r,c1,rfl,hc1,hr,hs1⟩:=(HH.out.below hB).acc.at_row hlt
   have HC:=Lib.hid (from_any (HH.out.below hB).m hs1 h.m.start)
   have hst0:=Lib.hid (start_ok OK.out)
   have hsu:Hid (h.stsErr (k+1)=h.stErr k):=by unfold Hid;show (if h.stsErr k=0 then h.stErr k else h.stsErr k)=_;rw [hE.out,if_pos rfl]
   have hst:Hid (h.stErr k=if wErr r h.m.inputs≠0 then wErr r h.m.inputs else if h.m.endW h.m.start r≠k then 15 else 0):=by unfold Hid Hy.stErr;rw [Hy.ac_of hr.out]
   have HST:Hid (∀e,e≠0→h.stErr k=e→h.err=e):=fun e h1 h2=>by
    have h3:h.stsErr h.acc.length=e:=by rw [Hy.stsErr_stop (k:=k+1) (by omega) (by rw [hsu.out,h2];exact h1),hsu.out,h2]
    rw [HF.out,if_pos (by rw [h3];exact h1),h3]
   have hle:=hs1.le
   have HS:=Lib.hid hs1
   clear hs1 hE HF
   by_cases hw:wErr r h.m.inputs=0
   ·have hwb:(wErr r h.m.inputs !=0)=false:=by simp [hw]
    have hfr:=Mach.frErr_0 hst0.out hw
    rw [hfr.1,hfr.2.2] at HC
    have hst:Hid (h.stErr k=if h.m.endW h.m.start r≠k then 15 else 0):=by have:=hst.out;rw [if_neg (by simp [hw])] at this;exact this
    clear hw hfr
    by_cases he:h.m.endW h.m.start r=k
    ·have heb:(h.m.endW h.m.start r !=((k:Nat):Int))=false:=by simp [he]
     have hE2:Hid (h.stsErr (k+1)=0):=by unfold Hid;rw [hsu.out,hst.out,if_neg (by simp [he])]
     clear he hst hsu HST
     go_wp2_with fail
     refine (HC.out).mono ?_
     rintro e w3 ⟨a3,c3,l3,rfl, -, -,hb3⟩
     have hx3:=hx.below hb3 (by omega)
     have hB3:=hB.trans (hb3.mono (by omega))
     have hz3:w.heap.size+1≤w3.heap.size:=by have:=hb3.size;omega
     clear HC hx hB hz hb3
     go_wp2
     go_roundw
     case rel=>exact ⟨k+1,by omega,by go_num,hE2,hx3,hB3,hz3⟩
     case measure=>simp [intOf];omega
    have heb:(h.m.endW h.m.start r !=((k:Nat):Int))=true:=by simp [he]
    have HF:=Lib.hid (HST.out 15 (by decide) (by rw [hst.out,if_pos he]))
    clear he hst hsu HST
    go_wp2_with fail
    refine (HC.out).mono ?_
    rintro e w3 ⟨a3,c3,l3,rfl, -, -,hb3⟩
    have hB3:=hB.trans (hb3.mono (by omega))
    clear HC hx hB hz hb3
    go_wp2
    go_ret
    exact ⟨ret_ij HF.out.symm,hB3⟩
   have hwb:(wErr r h.m.inputs !=0)=true:=by simp [hw]
   have HF:=Lib.hid (HST.out _ hw (by rw [hst.out,if_pos hw]))
   have hfr:=Mach.frErr_w hst0.out hw
   rw [hfr.1] at HC
   clear hw hst hsu HST hfr
   go_wp2_with fail
   refine (HC.out).mono ?_
   rintro e w3 ⟨a3,c3,l3,rfl, -, -,hb3⟩
   have hB3:=hB.trans (hb3.mono (by omega))
   clear HC hb3
   go_wp2
   go_ret
   exact ⟨ret_ij HF.out.symm,hB3⟩
  have e:k=h.acc.length:=by omega
  have hz0:Hid (h.stsErr h.acc.length=0):=by unfold Hid;rw [←e];exact hE.out
  have s0:=OK.out.s0
  obtain ⟨sn,hsn⟩:=Int.eq_ofNat_of_zero_le s0
  have hs1:sn<h.acc.length:=by have:=OK.out.s1;have:=H2.out;omega
  obtain ⟨b1,o1,a1,r,c1,rfl,hc1,hr,hs1'⟩:=(HH.out.below hB).acc.at_row hs1
  have hle:=hs1'.le
  have hF2:Hid (h.err=if r.length≠0 then 10 else 0):=by
   unfold Hid;rw [HF.out,if_neg (by simp [hz0.out]),hsn,Int.toNat_natCast,Hy.ac_of hr.out]
  have hx':H5 w2 w.heap.size an cn ao co (some ⟨b1,o1,none⟩) cc h:=hx
  have hst:w2.cell? ⟨w.heap.size,1,none⟩=some (.int .i64 ((sn:Nat):Int)):=by rw [←hsn];exact hx.1.2.1
  obtain ⟨⟨hx1, -,hx2,hx3⟩,hx4⟩:=hx'
  clear hx hs1' HF e s0
  by_cases hr0:r.length=0
  ·have hrb:(((r.length:Nat):Int) !=0)=false:=by simp [hr0]
   have HF:=Lib.hid (show h.err=0 by rw [hF2.out,if_neg (by simp [hr0])])
   clear hF2 hr0 hsn
   go_wp2
   go_ret
   exact ⟨ret_ij HF.out.symm,hB⟩
  have hrb:(((r.length:Nat):Int) !=0)=true:=by simpa using hr0
  have HF:=Lib.hid (show h.err=10 by rw [hF2.out,if_pos hr0])
  clear hF2 hr0 hsn
  go_wp2
  go_ret
  exact ⟨ret_ij HF.out.symm,hB⟩
end
section
variable {M M':Nat→Prop} {w:World} {a b:Option Addr} {c d:Nat}
theorem take_badO {l:List Int} {k:Nat} {x:Int} (hx:l[k]? =some x) (hp:¬badO x) (hn:∀y∈l.take k,¬badO y):∀y∈l.take (k+1),¬badO y:=by
 intro y hy
 rw [List.take_add_one,hx] at hy
 simp at hy
 rcases hy with hy|rfl
 ·exact hn y hy
 exact hp
theorem properR_any {t:Tr} (n:Int) (h1:Sl M w a c t.inn) (h2:Sl M' w b d t.out):
    Calls Tryz.prog 77 #[trV t a c b d,.int .i64 n] w fun e w'=>e= .returned (.int .i64 (t.err n))∧Below w.heap.size w w':=by
 have hl1:=h1.le
 have hl2:=h2.le
 have hB0:=(Below.refl w.heap.size w).alloc (Nat.le_refl _) (trO t a c b d)
 have hx0:T2 (w.alloc (trO t a c b d)) w.heap.size a c b d t:=t2_new w
 have HC:=Lib.hid (checkR1_any (h1.alloc (trO t a c b d)) n)
 have H2:=Lib.hid (h2.alloc (trO t a c b d))
 clear h1 h2
 by_cases hw:wErr t.inn n=0
 ·have hwb:(wErr t.inn n !=0)=false:=by simp [hw]
  by_cases hl:t.out.length=t.inn.length
  ·have hlb:(((t.out.length:Nat):Int) !=((t.inn.length:Nat):Int))=false:=by simp [hl]
   have HW:=Lib.hid hw
   have HL:=Lib.hid hl
   clear hw hl
   go_enter Tryz.func77,Tryz.ntmps77
   go_wp2_with fail
   generalize w.alloc (trO t a c b d)=w0 at*
   refine (HC.out).mono ?_
   rintro e w1 ⟨rfl,hw1⟩
   obtain rfl:w0=w1:=hw1.symm
   clear HC
   go_wp2
   go_loop [6] (fun i=>∃k:Nat,k≤t.out.length∧i= .int .i64 k∧Hid (∀y∈t.out.take k,¬badO y)) (fun i=>t.out.length-(intOf i).toNat)
   case atStart=>exact ⟨0,by omega,rfl,fun y hy=>by simp at hy⟩
   case round=>
    obtain ⟨k,hk,rfl,hN⟩:=hrel
    by_cases hlt:k<t.out.length
    ·obtain ⟨b1,o1,x,rfl,hc1,hx, -⟩:=H2.out.at_int hlt
     by_cases h0:x<0
     ·have HF:=Lib.hid (Tr.err_o HW.out HL.out ⟨x,List.mem_of_getElem? hx.out,.inl h0⟩)
      have hd:decide (x<0)=true:=by simp [h0]
      clear h0
      go_wp2
      go_ret
      exact ⟨ret_ij HF.out.symm,hB0⟩
     have hd:decide (x<0)=false:=by simpa using h0
     by_cases h1:1048576<x
     ·have HF:=Lib.hid (Tr.err_o HW.out HL.out ⟨x,List.mem_of_getElem? hx.out,.inr h1⟩)
      have hd1:decide (1048576<x)=true:=by simp [h1]
      clear h0 h1
      go_wp2
      go_ret
      exact ⟨ret_ij HF.out.symm,hB0⟩
     have hd1:decide (1048576<x)=false:=by simpa using h1
     have hN2:Hid (∀y∈t.out.take (k+1),¬badO y):=take_badO hx.out (by unfold badO;omega) hN.out
     clear h0 h1
     go_wp2
     go_round
     case rel=>exact ⟨k+1,by omega,by go_num,hN2⟩
     case measure=>simp [intOf];omega
    have HF:=Lib.hid (Tr.err_0 HW.out HL.out (by rintro ⟨x,hx,hb⟩;exact hN.out x (by rw [List.take_of_length_le (by omega)];exact hx) hb))
    go_wp2
    go_ret
    exact ⟨ret_ij HF.out.symm,hB0⟩
  have hlb:(((t.out.length:Nat):Int) !=((t.inn.length:Nat):Int))=true:=by simp;omega
  have HF:=Lib.hid (Tr.err_l hw hl)
  clear hw hl
  go_enter Tryz.func77,Tryz.ntmps77
  go_wp2_with fail
  generalize w.alloc (trO t a c b d)=w0 at*
  refine (HC.out).mono ?_
  rintro e w1 ⟨rfl,hw1⟩
  obtain rfl:w0=w1:=hw1.symm
  clear HC
  go_wp2
  go_ret
  exact ⟨ret_ij HF.out.symm,hB0⟩
 have hwb:(wErr t.inn n !=0)=true:=by simp [hw]
 have HF:=Lib.hid (Tr.err_w hw)
 clear hw
 go_enter Tryz.func77,Tryz.ntmps77
 go_wp2_with fail
 generalize w.alloc (trO t a c b d)=w0 at*
 refine (HC.out).mono ?_
 rintro e w1 ⟨rfl,hw1⟩
 obtain rfl:w0=w1:=hw1.symm
 clear HC
 go_wp2
 go_ret
 exact ⟨ret_ij HF.out.symm,hB0⟩
theorem dif_end {s t:Tr} {k n:Nat} (hn:n=comW s.inn t.inn) (hk:n≤k) (h:comW (s.out.take n) (t.out.take n)=k+comW ((s.out.take n).drop k) ((t.out.take n).drop k)):s.dif t= -1:=by
 unfold Tr.dif
 rw [←hn]
 simp only
 rw [if_neg (by omega)]
theorem dif_stop {s t:Tr} {k n:Nat} {x y:Int} (hn:n=comW s.inn t.inn) (hk:k<n) (hx:s.out[k]? =some x) (hy:t.out[k]? =some y) (hxy:x≠y) (h:comW (s.out.take n) (t.out.take n)=k+comW ((s.out.take n).drop k) ((t.out.take n).drop k)):s.dif t=k:=by
 unfold Tr.dif
 rw [←hn]
 have e:=comW_stop h (by rw [List.getElem?_take,if_pos hk];exact hx) (by rw [List.getElem?_take,if_pos hk];exact hy) hxy
 simp only
 rw [e,if_pos hk]
theorem difR_any {a2 b2:Option Addr} {c2 d2:Nat} {s t:Tr} (h1:Sl M w a c s.inn) (h2:Sl M w b d s.out) (h3:Sl M' w a2 c2 t.inn) (h4:Sl M' w b2 d2 t.out) (hs:Hid (s.inn.length≤s.out.length∧t.inn.length≤t.out.length)):
    Calls Tryz.prog 127 #[trV s a c b d,trV t a2 c2 b2 d2] w fun e w'=>e= .returned (.int .i64 (s.dif t))∧Below w.heap.size w w':=by
 have hl1:=h1.le
 have hl2:=h2.le
 have hl3:=h3.le
 have hl4:=h4.le
 have hB0:=((Below.refl w.heap.size w).alloc (Nat.le_refl _) (trO s a c b d)).alloc (by simp) (trO t a2 c2 b2 d2)
 have hx0:T2 ((w.alloc (trO s a c b d)).alloc (trO t a2 c2 b2 d2)) w.heap.size a c b d s:=(t2_new w).below (B:=w.heap.size+1) ((Below.refl _ _).alloc (by simp) _) (by omega)
 have hy0:T2 ((w.alloc (trO s a c b d)).alloc (trO t a2 c2 b2 d2)) (w.heap.size+1) a2 c2 b2 d2 t:=by
  have h:=t2_new (t:=t) (a:=a2) (c:=c2) (a':=b2) (c':=d2) (w.alloc (trO s a c b d))
  simpa using h
 have HC:=Lib.hid (comR_any (((h1.anti (M':=fun _=>False) fun _ _ h=>h.elim).alloc (trO s a c b d)).alloc (trO t a2 c2 b2 d2)) (((h3.anti (M':=fun _=>False) fun _ _ h=>h.elim).alloc (trO s a c b d)).alloc (trO t a2 c2 b2 d2)))
 have H2:=Lib.hid ((h2.alloc (trO s a c b d)).alloc (trO t a2 c2 b2 d2))
 have H4:=Lib.hid ((h4.alloc (trO s a c b d)).alloc (trO t a2 c2 b2 d2))
 have hz0:w.heap.size+2≤((w.alloc (trO s a c b d)).alloc (trO t a2 c2 b2 d2)).heap.size:=by simp
 have hle:=comW_le s.inn t.inn
 obtain ⟨n,hn⟩:∃n,n=comW s.inn t.inn:=⟨_,rfl⟩
 rw [←hn] at HC
 have hns:n≤s.out.length:=by have:=hs.out;omega
 have hnt:n≤t.out.length:=by have:=hs.out;omega
 have HN:=Lib.hid hn
 clear h1 h2 h3 h4 hle hn
 go_enter Tryz.func127,Tryz.ntmps127
 go_wp2_with fail
 generalize (w.alloc (trO s a c b d)).alloc (trO t a2 c2 b2 d2)=w0 at*
 refine (HC.out).mono ?_
 rintro e w1 ⟨rfl,hD⟩
 have hb1:=blw hD w0.heap.size
 have hx1:=hx0.below hb1 (by omega)
 have hy1:=hy0.below hb1 (by omega)
 have hB1:=hB0.trans (hb1.mono (by omega))
 have hz1:w.heap.size+2≤w1.heap.size:=by have:=hb1.size;omega
 have H2:=Lib.hid (H2.out.below hb1)
 have H4:=Lib.hid (H4.out.below hb1)
 clear HC hx0 hy0 hB0 hz0 hb1 hD
 go_wp2
 go_loopw [6] (fun i wr=>∃k:Nat,k≤n∧i= .int .i64 k∧Hid (comW (s.out.take n) (t.out.take n)=k+comW ((s.out.take n).drop k) ((t.out.take n).drop k))∧Hid (∃n,wr=w1.drewN n)) (fun i _=>n-(intOf i).toNat)
 case atStart=>exact ⟨0,by omega,rfl,by unfold Hid;simp,⟨0,rfl⟩⟩
 case round=>
  obtain ⟨k,hk,rfl,hE,hD⟩:=hrel
  obtain ⟨w2,rfl⟩:∃w2:World,w2=wr:=⟨_,rfl⟩
  have hb2:=blw hD w1.heap.size
  have hx2:=hx1.below hb2 (by omega)
  have hy2:=hy1.below hb2 (by omega)
  have hB2:=hB1.trans (hb2.mono (by omega))
  by_cases hlt:k<n
  ·obtain ⟨b1,o1,x,rfl,hc1,hxk, -⟩:=(H2.out.below hb2).at_int (j:=k) (by omega)
   obtain ⟨b3,o3,y,rfl,hc3,hyk, -⟩:=(H4.out.below hb2).at_int (j:=k) (by omega)
   have hks:k<s.out.length:=by omega
   have hkt:k<t.out.length:=by omega
   by_cases hxy:x=y
   ·have hb:(x !=y)=false:=by simp [hxy]
    have hE2:Hid (comW (s.out.take n) (t.out.take n)=(k+1)+comW ((s.out.take n).drop (k+1)) ((t.out.take n).drop (k+1))):=
     comW_step hE.out (x:=x) (by rw [List.getElem?_take,if_pos hlt];exact hxk.out) (by rw [List.getElem?_take,if_pos hlt,hxy];exact hyk.out)
    clear hxy
    go_wp2
    refine wp_quiet_fast (by kernel_rfl) (by kernel_rfl) ?_
    repeat (first|go_big_quiet_step (fail)|quiet_step (fail))
    refine wpQuiet_nil ?_
    intro _ hw'
    obtain ⟨nq,hw''⟩:=hw'
    subst hw''
    go_wp2
    go_roundw
    case rel=>exact ⟨k+1,by omega,by go_num,hE2,drw_add hD _⟩
    case measure=>simp [intOf];omega
   have hb:(x !=y)=true:=by simp [hxy]
   have HF:=Lib.hid (dif_stop HN.out hlt hxk.out hyk.out hxy hE.out)
   clear hxy
   go_wp2
   refine wp_quiet_fast (by kernel_rfl) (by kernel_rfl) ?_
   repeat (first|go_big_quiet_step (fail)|quiet_step (fail))
   refine wpQuiet_nil ?_
   intro _ hw'
   obtain ⟨nq,hw''⟩:=hw'
   subst hw''
   go_wp2
   go_ret
   exact ⟨ret_ij HF.out.symm,bl_drewN hB2 _⟩
  have HF:=Lib.hid (dif_end HN.out (by omega) hE.out)
  go_wp2
  go_ret
  exact ⟨ret_ij HF.out.symm,hB2⟩
end
end Go.Proofs.YtjmbphjgiodioaaGreatDoor
