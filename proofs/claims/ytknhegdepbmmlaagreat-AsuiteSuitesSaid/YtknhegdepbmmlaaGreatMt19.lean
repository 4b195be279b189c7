/- Several texts, one behind the other. Conditions: as each of them says. -/
import Derived.Test.YtknhegdepbmmlaaGreatMt15
import Derived.Test.YtknhegdepbmmlaaGreatMt13
import Derived.Test.YtknhegdepbmmlaaGreatMt6
import Derived.Test.YtknhegdepbmmlaaGreatMt4
import Derived.Test.YtknhegdepbmmlaaGreatMt3
set_option maxRecDepth 100000
set_option maxHeartbeats 32000000
namespace Go.Proofs.YtknhegdepbmmlaaGreat
open Go.RowKit
namespace Hy
variable (h:Hy)
def ac (s:Nat):List Int:=h.acc.getD s []
def stErr (s:Nat):Int:=if wErr (h.ac s) h.m.inputs≠0 then wErr (h.ac s) h.m.inputs else if h.m.endW h.m.start (h.ac s)≠s then 15 else 0
def stsErr:Nat→Int
 |0=>0
 |k+1=>if stsErr k=0 then h.stErr k else stsErr k
def err:Int:=
 if h.m.err≠0 then h.m.err
 else if h.acc.length≠h.m.next.length then 1
 else if h.stsErr h.acc.length≠0 then h.stsErr h.acc.length
 else if (h.ac h.m.start.toNat).length≠0 then 10 else 0
variable {h}
structure Ok (h:Hy):Prop where
 m:h.m.Ok
 len:h.acc.length=h.m.next.length
 word:∀s,s<h.acc.length→wErr (h.ac s) h.m.inputs=0∧h.m.endW h.m.start (h.ac s)=s
 start:h.ac h.m.start.toNat=[]
end Hy
section
variable {M:Nat→Prop} {w:World} {an ao ac:Option Addr} {cn co cc:Nat} {h:Hy}
theorem start_ok {m:Mach} (ok:m.Ok):m.stErr m.start=0:=by
 unfold Mach.stErr
 rw [if_neg (by simp [m.err_of_ok ok]),if_neg (by have:=ok.s0;have:=ok.s1;omega)]
end
section
variable {P:Program} {Q:Exit→Act→World→Prop} {md:Region.Mode} {S:World→Prop} {L:List Nat}
end
section
variable {M M':Nat→Prop} {w:World} {a a':Option Addr} {c c':Nat} {t:Tr}
end
section
variable {M M':Nat→Prop} {w:World} {an ao a:Option Addr} {cn co c:Nat} {m:Mach}
theorem fromR_any {l:List Int} (hm:Ma M w an cn ao co m) (hw:Sl M' w a c l) (s:Int):
    Calls Tryz.prog 129 #[maV m an cn ao co,.int .i64 s,.slice a l.length c] w fun e w'=>∃(a':Option Addr) (c':Nat) (l':List Int),e= .returned (.tuple #[.slice a' l'.length c',.int .i64 (m.frEnd s l),.int .i64 (m.frErr s l)])∧Hid (l'=m.frOut s l)∧
     Sl (fun k=>k<w.heap.size) w' a' c' l'∧Below w.heap.size w w':=by
 have hll:=hw.le
 have hle:=hm.next.le
 have HM:=Lib.hid hm
 have HW:=Lib.hid hw
 have hx0:=c4_new (m:=m) (an:=an) (cn:=cn) (ao:=ao) (co:=co) w
 have hB0:=(Below.refl w.heap.size w).alloc (Nat.le_refl _) (maO m an cn ao co)
 have hz0:w.heap.size+1≤(w.alloc (maO m an cn ao co)).heap.size:=by simp
 have HC:=Lib.hid (valid6_any (HM.out.below hB0))
 clear hm hw
 by_cases he:m.err=0
 ·have heb:(m.err !=0)=false:=by simp [he]
  by_cases hs:s<0
  ·have hd:decide (s<0)=true:=by simp [hs]
   have hst:m.stErr s=2:=by unfold Mach.stErr;rw [if_neg (by simp [he]),if_pos (.inl hs)]
   have HF:=Mach.frErr_st (w:=l) (by rw [hst];decide)
   rw [hst] at HF
   have HF:=Lib.hid HF
   clear he hst
   go_enter Tryz.func129,Tryz.ntmps129
   go_wp2_with fail
   refine (HC.out).mono ?_
   rintro e w1 ⟨rfl,hb1⟩
   have hB1:=hB0.trans (hb1.mono (by simp))
   go_wp2
   go_ret3
   exact ⟨none,0,[],ret_fr rfl HF.out.2.2.symm HF.out.1.symm,HF.out.2.1.symm,Sl.nil _ _ _ (by unfold maxLen;omega),hB1⟩
  have hd:decide (s<0)=false:=by simp;omega
  by_cases hs2:(m.next.length:Int)≤s
  ·have hst:m.stErr s=2:=by unfold Mach.stErr;rw [if_neg (by simp [he]),if_pos (.inr hs2)]
   have HF:=Mach.frErr_st (w:=l) (by rw [hst];decide)
   rw [hst] at HF
   have HF:=Lib.hid HF
   clear he hst
   go_enter Tryz.func129,Tryz.ntmps129
   go_wp2_with fail
   refine (HC.out).mono ?_
   rintro e w1 ⟨rfl,hb1⟩
   have hB1:=hB0.trans (hb1.mono (by simp))
   have hx1:=hx0.below hb1 (by simp)
   go_wp2
   go_ret3
   exact ⟨none,0,[],ret_fr rfl HF.out.2.2.symm HF.out.1.symm,HF.out.2.1.symm,Sl.nil _ _ _ (by unfold maxLen;omega),hB1⟩
  have hst:m.stErr s=0:=by unfold Mach.stErr;rw [if_neg (by simp [he]),if_neg (by omega)]
  have hs3:s<(m.next.length:Int):=by omega
  have OK:=Lib.hid (m.ok_of_err he)
  have HST:=Lib.hid hst
  by_cases hw:wErr l m.inputs=0
  ·have hwb:(wErr l m.inputs !=0)=false:=by simp [hw]
   have HF:=Lib.hid (Mach.frErr_0 hst hw)
   have HKW:=Lib.hid (Mach.okS_of hw)
   have hlw:=(Mach.okS_of hw).2
   clear he hst hw
   go_enter Tryz.func129,Tryz.ntmps129
   go_wp2_with fail
   refine (HC.out).mono ?_
   rintro e w1 ⟨rfl,hb1⟩
   have hB1:=hB0.trans (hb1.mono (by simp))
   have hx1:=hx0.below hb1 (by simp)
   have hz1:w.heap.size+1≤w1.heap.size:=by have:=hb1.size;omega
   have HC:=Lib.hid (checkR1_any (HW.out.below hB1) m.inputs)
   clear hx0 hB0 hb1 hz0
   go_wp2_with fail
   refine (HC.out).mono ?_
   rintro e w2 ⟨rfl,hw2⟩
   obtain rfl:w1=w2:=hw2.symm
   have HC:=Lib.hid (outsR_any (HM.out.below hB1) (HW.out.below hB1) OK (Lib.hid ⟨by omega,by omega⟩) (Lib.hid HKW.out.1) (by omega) (s:=s))
   go_wp2_with fail
   refine (HC.out).mono ?_
   rintro e w3 ⟨a3,c3,l3,rfl,hl3,hs3,hb3⟩
   have hB3:=hB1.trans (hb3.mono (by omega))
   have hs4:=hs3.anti (M':=fun k=>k<w.heap.size) (fun k _ hk=>by omega)
   have hl4:Hid (l3=m.frOut s l):=by unfold Hid;rw [hl3.out,HF.out.2.1]
   clear hl3 hs3 hb3 hB1 hx1
   go_wp2
   go_ret3
   exact ⟨a3,c3,l3,ret_fr rfl HF.out.2.2.symm HF.out.1.symm,hl4,hs4,hB3⟩
  have hwb:(wErr l m.inputs !=0)=true:=by simp [hw]
  have HF:=Lib.hid (Mach.frErr_w hst hw)
  clear he hst hw
  go_enter Tryz.func129,Tryz.ntmps129
  go_wp2_with fail
  refine (HC.out).mono ?_
  rintro e w1 ⟨rfl,hb1⟩
  have hB1:=hB0.trans (hb1.mono (by simp))
  have hx1:=hx0.below hb1 (by simp)
  have hz1:w.heap.size+1≤w1.heap.size:=by have:=hb1.size;omega
  have HC:=Lib.hid (checkR1_any (HW.out.below hB1) m.inputs)
  clear hx0 hB0 hb1 hz0
  go_wp2_with fail
  refine (HC.out).mono ?_
  rintro e w2 ⟨rfl,hw2⟩
  obtain rfl:w1=w2:=hw2.symm
  go_wp2
  go_ret3
  exact ⟨none,0,[],ret_fr rfl HF.out.2.2.symm HF.out.1.symm,HF.out.2.1.symm,Sl.nil _ _ _ (by unfold maxLen;omega),hB1⟩
 have heb:(m.err !=0)=true:=by simp [he]
 have hst:m.stErr s=m.err:=by unfold Mach.stErr;rw [if_pos he]
 have HF:=Mach.frErr_st (w:=l) (s:=s) (m:=m) (by rw [hst];exact he)
 rw [hst] at HF
 have HF:=Lib.hid HF
 clear he hst
 go_enter Tryz.func129,Tryz.ntmps129
 go_wp2_with fail
 refine (HC.out).mono ?_
 rintro e w1 ⟨rfl,hb1⟩
 have hB1:=hB0.trans (hb1.mono (by simp))
 go_wp2
 go_ret3
 exact ⟨none,0,[],ret_fr rfl HF.out.2.2.symm HF.out.1.symm,HF.out.2.1.symm,Sl.nil _ _ _ (by unfold maxLen;omega),hB1⟩
end
end Go.Proofs.YtknhegdepbmmlaaGreat
