/- Several texts, one behind the other. Conditions: as each of them says. -/
import Derived.Test.YtjagagpcjpcjjaaGreatMt17
import Derived.Test.YtjagagpcjpcjjaaGreatMt13
import Derived.Test.YtjagagpcjpcjjaaGreatMt6
import Derived.Test.YtjagagpcjpcjjaaGreatMt4
import Derived.Test.YtjagagpcjpcjjaaGreatMt3
set_option maxRecDepth 100000
set_option maxHeartbeats 32000000
namespace Go.Proofs.YtjagagpcjpcjjaaGreat
open Go.RowKit
namespace Hy
variable (h:Hy)
def ac (s:Nat):List Int:=h.acc.getD s []
def stErr (s:Nat):Int:=if wErr (h.ac s) h.m.inputs≠0 then wErr (h.ac s) h.m.inputs else if h.m.endW h.m.start (h.ac s)≠s then 15 else 0
def stsErr:Nat→Int
 |0=>0
 |k+1=>if stsErr k=0 then h.stErr k else stsErr k
def err:Int:=
 if h.m.err≠0 then h.m.err
 else if h.acc.length≠h.m.next.length then 1
 else if h.stsErr h.acc.length≠0 then h.stsErr h.acc.length
 else if (h.ac h.m.start.toNat).length≠0 then 10 else 0
variable {h}
theorem stsErr_stop {k n:Nat} (hk:k≤n) (e:h.stsErr k≠0):h.stsErr n=h.stsErr k:=by
 induction n with
 | zero => obtain rfl : k = 0 := by omega
           rfl
 |succ n ih=>
  by_cases e2:k=n+1
  ·rw [e2]
  have:=ih (by omega)
  show (if h.stsErr n=0 then _ else _)=_
  rw [this,if_neg e]
theorem stsErr_zero {k n:Nat} (hk:k<n) (e:h.stsErr n=0):h.stErr k=0:=by
 induction n with
 |zero=>omega
 |succ n ih=>
  have h':(if h.stsErr n=0 then h.stErr n else h.stsErr n)=0:=e
  by_cases e1:h.stsErr n=0
  ·rw [if_pos e1] at h'
   by_cases e2:k=n
   ·rw [e2];exact h'
   exact ih (by omega) e1
  rw [if_neg e1] at h';exact absurd h' e1
theorem stErr_zero {s:Nat} (e:h.stErr s=0):wErr (h.ac s) h.m.inputs=0∧h.m.endW h.m.start (h.ac s)=s:=by
 unfold stErr at e
 split at e
 ·rename_i h1;exact absurd e h1
 split at e
 ·simp at e
 rename_i h1 h2;exact ⟨by simpa using h1,by simpa using h2⟩
theorem err_cases:(h.m.err≠0∧h.err=h.m.err)∨(h.m.err=0∧h.acc.length≠h.m.next.length∧h.err=1)∨
    (h.m.err=0∧h.acc.length=h.m.next.length∧h.err=(if h.stsErr h.acc.length≠0 then h.stsErr h.acc.length else if (h.ac h.m.start.toNat).length≠0 then 10 else 0)):=by
 unfold err
 by_cases h1:h.m.err=0
 ·by_cases h2:h.acc.length=h.m.next.length
  ·exact .inr (.inr ⟨h1,h2,by rw [if_neg (by simp [h1]),if_neg (by simp [h2])]⟩)
  exact .inr (.inl ⟨h1,h2,by rw [if_neg (by simp [h1]),if_pos h2]⟩)
 exact .inl ⟨h1,by rw [if_pos h1]⟩
theorem ac_of {s:Nat} {w:List Int} (e:h.acc[s]? =some w):h.ac s=w:=getD_of_some e
structure Ok (h:Hy):Prop where
 m:h.m.Ok
 len:h.acc.length=h.m.next.length
 word:∀s,s<h.acc.length→wErr (h.ac s) h.m.inputs=0∧h.m.endW h.m.start (h.ac s)=s
 start:h.ac h.m.start.toNat=[]
theorem ok_of (e:h.err=0):h.Ok:=by
 rcases err_cases (h:=h) with ⟨h1,h2⟩|⟨_,_,h2⟩|⟨h1,h2,h3⟩
 ·rw [h2] at e;exact absurd e h1
 ·rw [h2] at e;simp at e
 rw [h3] at e
 split at e
 ·rename_i h4;exact absurd e h4
 rename_i h4
 split at e
 ·simp at e
 rename_i h5
 exact ⟨h.m.ok_of_err h1,h2,fun s hs=>stErr_zero (stsErr_zero hs (by simpa using h4)),by simpa using h5⟩
end Hy
theorem endW_ok {m:Mach} {w:List Int} (h:wErr w m.inputs=0):m.okS w∧w.length≤1024:=Mach.okS_of h
section
variable {M:Nat→Prop} {w:World} {an ao ac:Option Addr} {cn co cc:Nat} {h:Hy}
theorem hvalidR_any (hh:Hp M w an cn ao co ac cc h):
    Calls Tryz.prog 18 #[hyV h an cn ao co ac cc] w fun e w'=>e= .returned (.int .i64 h.err)∧Below w.heap.size w w':=by
 have l1:=hh.acc.le
 have l2:=hh.m.next.le
 have HH:=Lib.hid hh
 have hB0:=(Below.refl w.heap.size w).alloc (Nat.le_refl _) (hyO h an cn ao co ac cc)
 have hx0:H5 (w.alloc (hyO h an cn ao co ac cc)) w.heap.size an cn ao co ac cc h:=h5_new w
 have hz0:w.heap.size+1≤(w.alloc (hyO h an cn ao co ac cc)).heap.size:=by simp
 have HC:=Lib.hid (valid6_any (HH.out.below hB0).m)
 clear hh
 rcases Hy.err_cases (h:=h) with ⟨h1,he⟩|⟨h1,h2,he⟩|⟨h1,h2,he⟩
 ·have h1b:(h.m.err !=0)=true:=by simp [h1]
  have HF:=Lib.hid he
  clear he h1
  go_enter Tryz.func18,Tryz.ntmps18
  go_wp2_with fail
  generalize w.alloc (hyO h an cn ao co ac cc)=w0 at*
  refine (HC.out).mono ?_
  rintro e w1 ⟨rfl,hb1⟩
  have hB1:=hB0.trans (hb1.mono (by omega))
  go_wp2
  go_ret
  exact ⟨ret_ij HF.out.symm,hB1⟩
 ·have h1b:(h.m.err !=0)=false:=by simp [h1]
  have h2b:(((h.acc.length:Nat):Int) !=((h.m.next.length:Nat):Int))=true:=by simp;omega
  have HF:=Lib.hid he
  clear he h1 h2
  go_enter Tryz.func18,Tryz.ntmps18
  go_wp2_with fail
  generalize w.alloc (hyO h an cn ao co ac cc)=w0 at*
  refine (HC.out).mono ?_
  rintro e w1 ⟨rfl,hb1⟩
  have hB1:=hB0.trans (hb1.mono (by omega))
  have hx1:=hx0.below hb1 (by omega)
  go_wp2
  go_ret
  exact ⟨ret_ij HF.out.symm,hB1⟩
 have h1b:(h.m.err !=0)=false:=by simp [h1]
 have h2b:(((h.acc.length:Nat):Int) !=((h.m.next.length:Nat):Int))=false:=by simp [h2]
 have HF:=Lib.hid he
 have ok:=h.m.ok_of_err h1
 have n1:=ok.n1
 have i1:=ok.i1
 have OK:=Lib.hid ok
 have H2:=Lib.hid h2
 clear he h1 h2 ok
 go_enter Tryz.func18,Tryz.ntmps18
 go_wp2_with fail
 generalize w.alloc (hyO h an cn ao co ac cc)=w0 at*
 refine (HC.out).mono ?_
 rintro e w1 ⟨rfl,hb1⟩
 have hB1:=hB0.trans (hb1.mono (by omega))
 have hx1:=hx0.below hb1 (by omega)
 have hz1:w.heap.size+1≤w1.heap.size:=by have:=hb1.size;omega
 clear HC hb1 hB0 hx0 hz0
 go_wp2
 go_loopw [4] (fun i wr=>∃k:Nat,k≤h.acc.length∧i= .int .i64 k∧Hid (h.stsErr k=0)∧H5 wr w.heap.size an cn ao co ac cc h∧Below w.heap.size w wr∧w.heap.size+1≤wr.heap.size) (fun i _=>h.acc.length-(intOf i).toNat)
 case atStart=>exact ⟨0,by omega,rfl,rfl,hx1,hB1,hz1⟩
 case round=>
  clear hx1 hB1 hz1
  obtain ⟨k,hk,rfl,hE,hx,hB,hz⟩:=hrel
  obtain ⟨w2,rfl⟩:∃w2:World,w2=wr:=⟨_,rfl⟩
  by_cases hlt:k<h.acc.length
  ·obtain ⟨b1,o1,a1,r,c1,rfl,hc1,hr,hs1⟩:=(HH.out.below hB).acc.at_row hlt
   have HC:=Lib.hid (checkR1_any hs1 h.m.inputs)
   have hsu:Hid (h.stsErr (k+1)=h.stErr k):=by unfold Hid;show (if h.stsErr k=0 then h.stErr k else h.stsErr k)=_;rw [hE.out,if_pos rfl]
   have hst:Hid (h.stErr k=if wErr r h.m.inputs≠0 then wErr r h.m.inputs else if h.m.endW h.m.start r≠k then 15 else 0):=by unfold Hid Hy.stErr;rw [Hy.ac_of hr.out]
   have HST:Hid (∀e,e≠0→h.stErr k=e→h.err=e):=fun e h1 h2=>by
    have h3:h.stsErr h.acc.length=e:=by rw [Hy.stsErr_stop (k:=k+1) (by omega) (by rw [hsu.out,h2];exact h1),hsu.out,h2]
    rw [HF.out,if_pos (by rw [h3];exact h1),h3]
   have hle:=hs1.le
   have HS:=Lib.hid hs1
   clear hs1 hE HF
   by_cases hw:wErr r h.m.inputs=0
   ·have hwb:(wErr r h.m.inputs !=0)=false:=by simp [hw]
    have hoks:=Mach.okS_of hw
    have hst:Hid (h.stErr k=if h.m.endW h.m.start r≠k then 15 else 0):=by have:=hst.out;rw [if_neg (by simp [hw])] at this;exact this
    have HO:=Lib.hid (outsR_any (HH.out.below hB).m HS.out OK (Lib.hid ⟨OK.out.s0,OK.out.s1⟩) (Lib.hid hoks.1) (by omega))
    clear hw hoks
    by_cases he:h.m.endW h.m.start r=k
    ·have heb:(h.m.endW h.m.start r !=((k:Nat):Int))=false:=by simp [he]
     have hE2:Hid (h.stsErr (k+1)=0):=by unfold Hid;rw [hsu.out,hst.out,if_neg (by simp [he])]
     clear he hst hsu HST
     go_wp2_with fail
     refine (HC.out).mono ?_
     rintro e w3 ⟨rfl,hw3⟩
     obtain rfl:w2=w3:=hw3.symm
     clear HC
     go_wp2_with fail
     refine (HO.out).mono ?_
     rintro e w3 ⟨a3,c3,l3,rfl, -, -,hb3⟩
     have hx3:=hx.below hb3 (by omega)
     have hB3:=hB.trans (hb3.mono (by omega))
     have hz3:w.heap.size+1≤w3.heap.size:=by have:=hb3.size;omega
     clear HO hx hB hz hb3
     go_wp2
     go_roundw
     case rel=>exact ⟨k+1,by omega,by go_num,hE2,hx3,hB3,hz3⟩
     case measure=>simp [intOf];omega
    have heb:(h.m.endW h.m.start r !=((k:Nat):Int))=true:=by simp [he]
    have HF:=Lib.hid (HST.out 15 (by decide) (by rw [hst.out,if_pos he]))
    clear he hst hsu HST
    go_wp2_with fail
    refine (HC.out).mono ?_
    rintro e w3 ⟨rfl,hw3⟩
    obtain rfl:w2=w3:=hw3.symm
    clear HC
    go_wp2_with fail
    refine (HO.out).mono ?_
    rintro e w3 ⟨a3,c3,l3,rfl, -, -,hb3⟩
    have hB3:=hB.trans (hb3.mono (by omega))
    clear HO hx hB hz hb3
    go_wp2
    go_ret
    exact ⟨ret_ij HF.out.symm,hB3⟩
   have hwb:(wErr r h.m.inputs !=0)=true:=by simp [hw]
   have HF:=Lib.hid (HST.out _ hw (by rw [hst.out,if_pos hw]))
   clear hw hst hsu HST
   go_wp2_with fail
   refine (HC.out).mono ?_
   rintro e w3 ⟨rfl,hw3⟩
   obtain rfl:w2=w3:=hw3.symm
   clear HC
   go_wp2
   go_ret
   exact ⟨ret_ij HF.out.symm,hB⟩
  have e:k=h.acc.length:=by omega
  have hz0:Hid (h.stsErr h.acc.length=0):=by unfold Hid;rw [←e];exact hE.out
  have s0:=OK.out.s0
  obtain ⟨sn,hsn⟩:=Int.eq_ofNat_of_zero_le s0
  have hs1:sn<h.acc.length:=by have:=OK.out.s1;have:=H2.out;omega
  obtain ⟨b1,o1,a1,r,c1,rfl,hc1,hr,hs1'⟩:=(HH.out.below hB).acc.at_row hs1
  have hle:=hs1'.le
  have hF2:Hid (h.err=if r.length≠0 then 10 else 0):=by
   unfold Hid;rw [HF.out,if_neg (by simp [hz0.out]),hsn,Int.toNat_natCast,Hy.ac_of hr.out]
  have hx':H5 w2 w.heap.size an cn ao co (some ⟨b1,o1,none⟩) cc h:=hx
  have hst:w2.cell? ⟨w.heap.size,1,none⟩=some (.int .i64 ((sn:Nat):Int)):=by rw [←hsn];exact hx.1.2.1
  obtain ⟨⟨hx1, -,hx2,hx3⟩,hx4⟩:=hx'
  clear hx hs1' HF e s0
  by_cases hr0:r.length=0
  ·have hrb:decide (0<((r.length:Nat):Int))=false:=by simp [hr0]
   have HF:=Lib.hid (show h.err=0 by rw [hF2.out,if_neg (by simp [hr0])])
   have hr1:¬0<r.length:=by omega
   clear hF2 hr0 hsn
   go_wp2
   go_ret
   exact ⟨ret_ij HF.out.symm,hB⟩
  have hrb:decide (0<((r.length:Nat):Int))=true:=by simp;omega
  have HF:=Lib.hid (show h.err=10 by rw [hF2.out,if_pos hr0])
  have hr1:0<r.length:=by omega
  clear hF2 hr0 hsn
  go_wp2
  go_ret
  exact ⟨ret_ij HF.out.symm,hB⟩
theorem start_ok {m:Mach} (ok:m.Ok):m.stErr m.start=0:=by
 unfold Mach.stErr
 rw [if_neg (by simp [m.err_of_ok ok]),if_neg (by have:=ok.s0;have:=ok.s1;omega)]
theorem hvalid_any (hh:Hp M w an cn ao co ac cc h):
    Calls Tryz.prog 23 #[hyV h an cn ao co ac cc] w fun e w'=>e= .returned (.int .i64 h.err)∧Below w.heap.size w w':=by
 have l1:=hh.acc.le
 have l2:=hh.m.next.le
 have HH:=Lib.hid hh
 have hB0:=(Below.refl w.heap.size w).alloc (Nat.le_refl _) (hyO h an cn ao co ac cc)
 have hx0:H5 (w.alloc (hyO h an cn ao co ac cc)) w.heap.size an cn ao co ac cc h:=h5_new w
 have hz0:w.heap.size+1≤(w.alloc (hyO h an cn ao co ac cc)).heap.size:=by simp
 have HC:=Lib.hid (valid_any (HH.out.below hB0).m)
 clear hh
 rcases Hy.err_cases (h:=h) with ⟨h1,he⟩|⟨h1,h2,he⟩|⟨h1,h2,he⟩
 ·have h1b:(h.m.err !=0)=true:=by simp [h1]
  have HF:=Lib.hid he
  clear he h1
  go_enter Tryz.func23,Tryz.ntmps23
  go_wp2_with fail
  generalize w.alloc (hyO h an cn ao co ac cc)=w0 at*
  refine (HC.out).mono ?_
  rintro e w1 ⟨rfl,hb1⟩
  have hB1:=hB0.trans (hb1.mono (by omega))
  go_wp2
  go_ret
  exact ⟨ret_ij HF.out.symm,hB1⟩
 ·have h1b:(h.m.err !=0)=false:=by simp [h1]
  have h2b:(((h.acc.length:Nat):Int) !=((h.m.next.length:Nat):Int))=true:=by simp;omega
  have HF:=Lib.hid he
  clear he h1 h2
  go_enter Tryz.func23,Tryz.ntmps23
  go_wp2_with fail
  generalize w.alloc (hyO h an cn ao co ac cc)=w0 at*
  refine (HC.out).mono ?_
  rintro e w1 ⟨rfl,hb1⟩
  have hB1:=hB0.trans (hb1.mono (by omega))
  have hx1:=hx0.below hb1 (by omega)
  go_wp2
  go_ret
  exact ⟨ret_ij HF.out.symm,hB1⟩
 have h1b:(h.m.err !=0)=false:=by simp [h1]
 have h2b:(((h.acc.length:Nat):Int) !=((h.m.next.length:Nat):Int))=false:=by simp [h2]
 have HF:=Lib.hid he
 have ok:=h.m.ok_of_err h1
 have n1:=ok.n1
 have i1:=ok.i1
 have OK:=Lib.hid ok
 have H2:=Lib.hid h2
 clear he h1 h2 ok
 go_enter Tryz.func23,Tryz.ntmps23
 go_wp2_with fail
 generalize w.alloc (hyO h an cn ao co ac cc)=w0 at*
 refine (HC.out).mono ?_
 rintro e w1 ⟨rfl,hb1⟩
 have hB1:=hB0.trans (hb1.mono (by omega))
 have hx1:=hx0.below hb1 (by omega)
 have hz1:w.heap.size+1≤w1.heap.size:=by have:=hb1.size;omega
 clear HC hb1 hB0 hx0 hz0
 go_wp2
 go_loopw [26] (fun i wr=>∃k:Nat,k≤h.acc.length∧i= .int .i64 k∧Hid (h.stsErr k=0)∧H5 wr w.heap.size an cn ao co ac cc h∧Below w.heap.size w wr∧w.heap.size+1≤wr.heap.size) (fun i _=>h.acc.length-(intOf i).toNat)
 case atStart=>exact ⟨0,by omega,rfl,rfl,hx1,hB1,hz1⟩
 case round=>
  clear hx1 hB1 hz1
  obtain ⟨k,hk,rfl,hE,hx,hB,hz⟩:=hrel
  obtain ⟨w2,rfl⟩:∃w2:World,w2=wr:=⟨_,rfl⟩
  by_cases hlt:k<h.acc.length
  ·obtain ⟨b1,o1,a1,r,c1,rfl,hc1,hr,hs1⟩:=(HH.out.below hB).acc.at_row hlt
   have HC:=Lib.hid (from_any (HH.out.below hB).m hs1 h.m.start)
   have hst0:=Lib.hid (start_ok OK.out)
   have hsu:Hid (h.stsErr (k+1)=h.stErr k):=by unfold Hid;show (if h.stsErr k=0 then h.stErr k else h.stsErr k)=_;rw [hE.out,if_pos rfl]
   have hst:Hid (h.stErr k=if wErr r h.m.inputs≠0 then wErr r h.m.inputs else if h.m.endW h.m.start r≠k then 15 else 0):=by unfold Hid Hy.stErr;rw [Hy.ac_of hr.out]
   have HST:Hid (∀e,e≠0→h.stErr k=e→h.err=e):=fun e h1 h2=>by
    have h3:h.stsErr h.acc.length=e:=by rw [Hy.stsErr_stop (k:=k+1) (by omega) (by rw [hsu.out,h2];exact h1),hsu.out,h2]
    rw [HF.out,if_pos (by rw [h3];exact h1),h3]
   have hle:=hs1.le
   have HS:=Lib.hid hs1
   clear hs1 hE HF
   by_cases hw:wErr r h.m.inputs=0
   ·have hwb:(wErr r h.m.inputs !=0)=false:=by simp [hw]
    have hfr:=Mach.frErr_0 hst0.out hw
    rw [hfr.1,hfr.2.2] at HC
    have hst:Hid (h.stErr k=if h.m.endW h.m.start r≠k then 15 else 0):=by have:=hst.out;rw [if_neg (by simp [hw])] at this;exact this
    clear hw hfr
    by_cases he:h.m.endW h.m.start r=k
    ·have heb:(h.m.endW h.m.start r !=((k:Nat):Int))=false:=by simp [he]
     have hE2:Hid (h.stsErr (k+1)=0):=by unfold Hid;rw [hsu.out,hst.out,if_neg (by simp [he])]
     clear he hst hsu HST
     go_wp2_with fail
     refine (HC.out).mono ?_
     rintro e w3 ⟨a3,c3,l3,rfl, -, -,hb3⟩
     have hx3:=hx.below hb3 (by omega)
     have hB3:=hB.trans (hb3.mono (by omega))
     have hz3:w.heap.size+1≤w3.heap.size:=by have:=hb3.size;omega
     clear HC hx hB hz hb3
     go_wp2
     go_roundw
     case rel=>exact ⟨k+1,by omega,by go_num,hE2,hx3,hB3,hz3⟩
     case measure=>simp [intOf];omega
    have heb:(h.m.endW h.m.start r !=((k:Nat):Int))=true:=by simp [he]
    have HF:=Lib.hid (HST.out 15 (by decide) (by rw [hst.out,if_pos he]))
    clear he hst hsu HST
    go_wp2_with fail
    refine (HC.out).mono ?_
    rintro e w3 ⟨a3,c3,l3,rfl, -, -,hb3⟩
    have hB3:=hB.trans (hb3.mono (by omega))
    clear HC hx hB hz hb3
    go_wp2
    go_ret
    exact ⟨ret_ij HF.out.symm,hB3⟩
   have hwb:(wErr r h.m.inputs !=0)=true:=by simp [hw]
   have HF:=Lib.hid (HST.out _ hw (by rw [hst.out,if_pos hw]))
   have hfr:=Mach.frErr_w hst0.out hw
   rw [hfr.1] at HC
   clear hw hst hsu HST hfr
   go_wp2_with fail
   refine (HC.out).mono ?_
   rintro e w3 ⟨a3,c3,l3,rfl, -, -,hb3⟩
   have hB3:=hB.trans (hb3.mono (by omega))
   clear HC hb3
   go_wp2
   go_ret
   exact ⟨ret_ij HF.out.symm,hB3⟩
  have e:k=h.acc.length:=by omega
  have hz0:Hid (h.stsErr h.acc.length=0):=by unfold Hid;rw [←e];exact hE.out
  have s0:=OK.out.s0
  obtain ⟨sn,hsn⟩:=Int.eq_ofNat_of_zero_le s0
  have hs1:sn<h.acc.length:=by have:=OK.out.s1;have:=H2.out;omega
  obtain ⟨b1,o1,a1,r,c1,rfl,hc1,hr,hs1'⟩:=(HH.out.below hB).acc.at_row hs1
  have hle:=hs1'.le
  have hF2:Hid (h.err=if r.length≠0 then 10 else 0):=by
   unfold Hid;rw [HF.out,if_neg (by simp [hz0.out]),hsn,Int.toNat_natCast,Hy.ac_of hr.out]
  have hx':H5 w2 w.heap.size an cn ao co (some ⟨b1,o1,none⟩) cc h:=hx
  have hst:w2.cell? ⟨w.heap.size,1,none⟩=some (.int .i64 ((sn:Nat):Int)):=by rw [←hsn];exact hx.1.2.1
  obtain ⟨⟨hx1, -,hx2,hx3⟩,hx4⟩:=hx'
  clear hx hs1' HF e s0
  by_cases hr0:r.length=0
  ·have hrb:(((r.length:Nat):Int) !=0)=false:=by simp [hr0]
   have HF:=Lib.hid (show h.err=0 by rw [hF2.out,if_neg (by simp [hr0])])
   clear hF2 hr0 hsn
   go_wp2
   go_ret
   exact ⟨ret_ij HF.out.symm,hB⟩
  have hrb:(((r.length:Nat):Int) !=0)=true:=by simpa using hr0
  have HF:=Lib.hid (show h.err=10 by rw [hF2.out,if_pos hr0])
  clear hF2 hr0 hsn
  go_wp2
  go_ret
  exact ⟨ret_ij HF.out.symm,hB⟩
end
section
variable {P:Program} {Q:Exit→Act→World→Prop} {md:Region.Mode} {S:World→Prop} {L:List Nat}
end
section
variable {M M':Nat→Prop} {w:World} {a a':Option Addr} {c c':Nat} {t:Tr}
end
section
variable {M M':Nat→Prop} {w:World} {an ao a:Option Addr} {cn co c:Nat} {m:Mach}
end
end Go.Proofs.YtjagagpcjpcjjaaGreat
