/- Several texts, one behind the other. Conditions: as each of them says. -/
import Derived.Test.YtknhegdepbmmlaaGreatMt37
import Derived.Test.YtknhegdepbmmlaaGreatMt35
import Derived.Test.YtknhegdepbmmlaaGreatMt34
import Derived.Test.YtknhegdepbmmlaaGreatMt26
import Derived.Test.YtknhegdepbmmlaaGreatMt23
import Derived.Test.YtknhegdepbmmlaaGreatMt22
import Derived.Test.YtknhegdepbmmlaaGreatMt16
import Derived.Test.YtknhegdepbmmlaaGreatMt15
import Derived.Test.YtknhegdepbmmlaaGreatMt8
import Derived.Test.YtknhegdepbmmlaaGreatMt4
set_option maxRecDepth 100000
set_option maxHeartbeats 32000000
namespace Go.Proofs.YtknhegdepbmmlaaGreat
open Go.RowKit
section
variable {M MT:Nat→Prop} {w:World} {an ao aT:Option Addr} {cn co cT:Nat} {m:Mach} {T:List Nd}
end
section
variable {M:Nat→Prop} {w:World} {a:Option Addr} {c:Nat} {L:List Nd}
end
section
variable {M:Nat→Prop} {w:World} {an ao:Option Addr} {cn co:Nat} {m:Mach}
end
def Mach.partsW (m:Mach) (extra:Int):Mach×List (List Int)×List (List Int)×Int:=
 if m.err≠0 then (Mach.nothing,[],[],m.err) else
 if extra<0∨3<extra then (Mach.nothing,[],[],2) else
 if (uptW m.inputs (extra+1)).2≠0 then (Mach.nothing,[],[],(uptW m.inputs (extra+1)).2) else
 (m.minOf,m.minOf.covW.map Pc.word,(uptW m.inputs (extra+1)).1,0)
def PartsR (m:Mach) (extra:Int) (w:World) (e:Ending) (w':World):Prop:=∃(an:Option Addr) (cn:Nat) (ao:Option Addr) (co:Nat) (t:Mach) (aA:Option Addr) (cA:Nat) (A:List (List Int)) (aX:Option Addr) (cX:Nat) (X:List (List Int)) (e1:Int),
 e= .returned (.tuple #[maV t an cn ao co,.slice aA A.length cA,.slice aX X.length cX,.int .i64 e1])∧Hid (m.partsW extra=(t,A,X,e1))∧Ma (fun k=>k<w.heap.size) w' an cn ao co t∧Sl (fun k=>k<w.heap.size) w' aA cA A∧Sl (fun k=>k<w.heap.size) w' aX cX X∧Below w.heap.size w w'
section
variable {M:Nat→Prop} {w:World} {an ao:Option Addr} {cn co:Nat} {m:Mach}
end
section
variable {M MT:Nat→Prop} {w:World} {an ao aT:Option Addr} {cn co cT:Nat} {m:Mach} {T:List Nd}
end
namespace Mach
variable {m:Mach}
theorem wordGo_wi {T:List Nd} (ok:m.Ok):∀(f a:Nat) (c:Int) (w:List Int),m.Wi T a c→T.length≤a+f→w.length≤a→(m.wordGo T f a c w).1.length≤(m.wordGo T f a c w).2∧(m.wordGo T f a c w).2<T.length∧∃c',m.Wi T (m.wordGo T f a c w).2 c'
 |0,a,c,w,h,hf,hw=>by have:=(wi_lt h).1;omega
 |f+1,a,c,w,h,hf,hw=>by
  have hl:=(wi_lt h).1
  have hx:T[a]? =some T[a]:=List.getElem?_eq_getElem hl
  by_cases h0:T[a].inp<0
  ·rw [wordGo_stop hx h0];exact ⟨hw,hl,c,h⟩
  obtain ⟨-,k,kd,n',h1,h2,h3,h4,h5,h6,h7⟩:=wi_step ok h hx (by omega)
  rw [wordGo_on hx (by omega) (kidOf_at h1 h2 h3),h4,Int.toNat_natCast]
  exact wordGo_wi ok f n' _ _ h7 (by omega) (by rw [List.length_append];simp;omega)
theorem idE_small {T:List Nd} (hn:m.next.length<1000):∀r∈(m.idE T).1,Sm6 r:=by
 unfold idE
 split
 ·intro r hr;simp at hr
 rename_i h
 have h:m.adsChk T=0:=Classical.byContradiction h
 have ok:m.Ok:=Mach.ok_of_err m (Mach.minErr_ok (Mach.adsChk_0 h).1).1
 intro r hr
 unfold ids at hr
 obtain ⟨s,hs,rfl⟩:=List.mem_map.1 hr
 obtain ⟨h1,h2,c',h3⟩:=wordGo_wi ok T.length 0 (s:Int) [] (wi_0 ok h (List.mem_range.1 hs)) (by omega) (by simp)
 have hx:T[(m.adsW T s).2]? =some T[(m.adsW T s).2]:=List.getElem?_eq_getElem h2
 have hT:=(Mach.adsChk_0 h).2.1
 have hq:Sm6 (m.idW T (s:Int)):=by
  rw [idW_eq (W:=(m.adsW T s).1) (l:=(m.adsW T s).2) rfl hx]
  exact small_id (Nat.le_trans h1 (by have:(m.adsW T s).2<T.length:=h2;omega)) (by have:=(wi_node h3 hx).2;omega) hn
 exact ⟨Nat.lt_of_le_of_lt (srt_len _) hq.1,fun y hy=>hq.2 y ((srt_mem tot_cmp).1 hy)⟩
theorem idE_ok {n:Mach} (h:n.adsB.2.2=0):(n.idE n.adsB.1).2=0:=by
 unfold idE
 rw [if_neg (by simp [adsB_chk h])]
end Mach
section
variable {M:Nat→Prop} {w:World} {an ao:Option Addr} {cn co:Nat} {m:Mach}
end
end Go.Proofs.YtknhegdepbmmlaaGreat
namespace Go.Proofs.YtknhegdepbmmlaaGreat
namespace Mach
variable {m:Mach}
theorem all_in {l:List Int} {n:Nat} (hd:l.Nodup) (hr:∀x∈l,0≤x∧x<n) (hl:l.length=n) {s:Int} (h0:0≤s) (h1:s<n):s∈l:=by
 by_cases e:s∈l
 ·exact e
 have h := nodup_le n (s :: l) (List.nodup_cons.2 ⟨e, hd⟩) (fun x hx => by
  rcases List.mem_cons.1 hx with rfl|hx
  ·exact ⟨h0,h1⟩
  exact hr x hx)
 rw [List.length_cons] at h;omega
theorem covW_all (ok:m.Ok) (hr:m.reach.length=m.next.length) {s:Int} (h0:0≤s) (h1:s<m.next.length):∃p∈m.covW.map Pc.word,m.endW m.start p=s∧m.okS p∧p.length≤m.next.length:=by
 obtain ⟨g1,g2, -⟩:=bfs_props ok m.next.length
 have h2:s∈m.covW.map Pc.s:=by
  unfold covW
  rw [cov_states]
  exact all_in g1 g2 hr h0 h1
 obtain ⟨q,hq,rfl⟩:=List.mem_map.1 h2
 obtain ⟨-, -,h3,h4,h5⟩:=cov_all ok m.next.length q hq
 exact ⟨q.word,List.mem_map_of_mem hq,h5,h3,h4⟩
theorem wordGo_ok {T:List Nd} (ok:m.Ok):∀(f a:Nat) (c:Int) (w:List Int),m.Wi T a c→m.okS w→m.okS (m.wordGo T f a c w).1
 |0,a,c,w,h,hw=>hw
 |f+1,a,c,w,h,hw=>by
  have hl:=(wi_lt h).1
  have hx:T[a]? =some T[a]:=List.getElem?_eq_getElem hl
  by_cases h0:T[a].inp<0
  ·rw [wordGo_stop hx h0];exact hw
  obtain ⟨hi,k,kd,n',h1,h2,h3,h4,h5,h6,h7⟩:=wi_step ok h hx (by omega)
  rw [wordGo_on hx (by omega) (kidOf_at h1 h2 h3),h4,Int.toNat_natCast]
  refine wordGo_ok ok f n' _ _ h7 fun y hy=> ?_
  rcases List.mem_append.1 hy with hy|hy
  ·exact hw y hy
  rw [List.mem_singleton.1 hy];omega
theorem sepW_ok (n8:m.next.length≤8) (s x:Int):m.okS (m.sepW s x)∧(m.sepW s x).length≤505:=by
 unfold sepW
 cases h:stW m s x with
 |none=>exact ⟨fun y hy=>by simp at hy,by simp⟩
 |some w=>
  show m.okS w∧w.length≤505
  unfold stW at h
  split at h
  ·have h1:=first_len h
   have h2:m.next.length*m.next.length≤8*8:=Nat.mul_le_mul n8 n8
   exact ⟨(first_some h).1.1,by omega⟩
  simp at h
theorem ids_ok {T:List Nd} (n8:m.next.length≤8) (h:m.adsChk T=0) (hT:T.length≤505):∀r∈(m.idE T).1,∀v∈r,m.okS v∧v.length≤505:=by
 have ok:m.Ok:=Mach.ok_of_err m (Mach.minErr_ok (Mach.adsChk_0 h).1).1
 unfold idE
 rw [if_neg (by simp [h])]
 intro r hr v hv
 unfold ids at hr
 obtain ⟨s,hs,rfl⟩:=List.mem_map.1 hr
 rw [srt_mem tot_cmp] at hv
 unfold idW at hv
 have hw0:=wi_0 ok h (List.mem_range.1 hs)
 rcases List.mem_append.1 hv with hv|hv
 ·unfold idA at hv
  split at hv
  ·rw [List.mem_singleton.1 hv]
   obtain ⟨h1,h2, -⟩:=wordGo_wi ok T.length 0 (s:Int) [] hw0 (by omega) (by simp)
   exact ⟨wordGo_ok ok T.length 0 (s:Int) [] hw0 (fun y hy=>by simp at hy),by show (m.wordGo T T.length 0 (s:Int) []).1.length≤505;omega⟩
  simp at hv
 obtain ⟨x, -,rfl⟩:=List.mem_map.1 hv
 exact sepW_ok n8 _ _
theorem minF_min (ok:m.Ok):m.minF.minErr=0∧m.minF.minOf=m.minF∧m.minF.err=0∧m.minF.next.length≤m.next.length:=by
 have okt:=minF_ok ok
 have he:=Mach.err_of_ok _ okt
 have h1:m.minF.minOf=m.minF:=by rw [Mach.minOf_eq he,minF_minF ok]
 have h2:m.minF.minimal=true:=by
  unfold minimal
  have:=minF_reach ok
  simp [he,this,h1]
 exact ⟨Mach.minErr_0 he h2,h1,he,by rw [minF_len];exact Nat.le_trans (firsts_le ok) (reach_le ok)⟩
theorem suW_8 (ok:m.Ok) (n8:m.next.length≤8) {extra:Int} (h0:0≤extra) (h3:extra≤3):
    m.suW extra=if (uptW m.inputs (extra+1)).2≠0 then ([],(uptW m.inputs (extra+1)).2) else
     if 10000<(m.minF.covW.map Pc.word).length*(uptW m.inputs (extra+1)).1.length*grW (m.minF.idE m.minF.adsL).1 then ([],11) else
     (maxW (suOut m.minF (m.minF.idE m.minF.adsL).1 (m.minF.covW.map Pc.word) (uptW m.inputs (extra+1)).1),0):=by
 have he:=Mach.err_of_ok _ ok
 obtain ⟨g1,g2,g3,g4⟩:=minF_min ok
 obtain ⟨b1,b2⟩:=adsB_8 g1 (by omega)
 have b3:=idE_ok (n:=m.minF) (by rw [b1])
 unfold suW
 rw [Mach.minOf_eq he,b1,if_neg (by simp [he]),if_neg (by omega)]
 rw [b1] at b3
 congr 1
 rw [if_neg (by simp),if_neg (by simpa using b3)]
theorem suW_min (ok:m.Ok) (n8:m.next.length≤8) {extra:Int} (h0:0≤extra) (h3:extra≤3):m.minF.suW extra=m.suW extra:=by
 obtain ⟨g1,g2,g3,g4⟩:=minF_min ok
 rw [suW_8 ok n8 h0 h3,suW_8 (minF_ok ok) (by omega) h0 h3,minF_minF ok]
 rfl
theorem suW_err (ok:m.Ok) (n8:m.next.length≤8) {extra:Int} (h0:0≤extra) (h3:extra≤3):(m.suW extra).2=0∨(m.suW extra).2=11:=by
 rw [suW_8 ok n8 h0 h3]
 have hu:=uptW_err (n:=m.inputs) (N:=extra+1) (by have:=ok.i0;omega) (by have:=ok.i1;omega) (by omega) (by omega)
 split
 ·exact hu
 split
 ·exact .inr rfl
 exact .inl rfl
theorem suW_0 (ok:m.Ok) (n8:m.next.length≤8) {extra:Int} (h0:0≤extra) (h3:extra≤3) (h:(m.suW extra).2=0):
    (uptW m.inputs (extra+1)).2=0∧(m.suW extra).1=maxW (suOut m.minF (m.minF.idE m.minF.adsL).1 (m.minF.covW.map Pc.word) (uptW m.inputs (extra+1)).1):=by
 rw [suW_8 ok n8 h0 h3] at h ⊢
 split at h
 ·rename_i e;exact absurd h e
 rename_i e
 rw [if_neg e]
 split at h
 ·simp at h
 rename_i e2
 rw [if_neg e2]
 exact ⟨Classical.byContradiction e,rfl⟩
theorem tailW_ne {ids:List (List (List Int))} {w:List Int}:∃v,v∈tailW m ids w:=by
 unfold tailW
 split
 ·exact ⟨[],by simp⟩
 rename_i h
 obtain ⟨v,hv⟩:=List.exists_mem_of_ne_nil _ h
 exact ⟨v,hv⟩
theorem tailW_at {ids:List (List (List Int))} {w v:List Int} (h:v∈tailW m ids w):v=[]∨∃r∈ids,v∈r:=by
 unfold tailW at h
 split at h
 ·exact .inl (List.mem_singleton.1 h)
 rename_i hne
 refine .inr ⟨_,?_,h⟩
 rw [List.getD_eq_getElem?_getD] at hne ⊢
 cases e:ids[(m.endW m.start w).toNat]? with
 |none=>rw [e] at hne;exact absurd rfl hne
 |some r=>exact List.mem_of_getElem? e
theorem suW_words (ok:m.Ok) (n8:m.next.length≤8) {extra:Int} (h0:0≤extra) (h3:extra≤3) (h:(m.suW extra).2=0):∀w∈(m.suW extra).1,wErr w m.inputs=0:=by
 obtain ⟨g1,g2,g3,g4⟩:=minF_min ok
 obtain ⟨b1,b2⟩:=adsB_8 g1 (by omega)
 have b3:=adsB_chk (n:=m.minF) (by rw [b1])
 rw [b1] at b3
 have okt:=minF_ok ok
 intro w hw
 rw [(suW_0 ok n8 h0 h3 h).2] at hw
 have hw:=maxW_mem hw
 unfold suOut at hw
 obtain ⟨p,hp,hw⟩:=List.mem_flatMap.1 hw
 unfold sf at hw
 obtain ⟨x,hx,hw⟩:=List.mem_flatMap.1 hw
 unfold sg at hw
 obtain ⟨v,hv,rfl⟩:=List.mem_map.1 hw
 obtain ⟨q,hq,rfl⟩:=List.mem_map.1 hp
 obtain ⟨-, -,q1,q2, -⟩:=cov_all okt m.minF.next.length q hq
 have hxi:=(uptW_in m.inputs (extra+1)).1 x hx
 have hv2:m.minF.okS v∧v.length≤505:=by
  rcases tailW_at hv with rfl|⟨r,hr,hvr⟩
  ·exact ⟨fun y hy=>by simp at hy,by simp⟩
  exact ids_ok (by omega) b3 b2 r hr v hvr
 have hin:m.minF.inputs=m.inputs:=rfl
 refine wErr_of (by have:=ok.i0;omega) (by have:=ok.i1;omega) (by simp only [List.length_append];have:=hxi.2;have:=hv2.2;omega) (fun y hy=> ?_)
 rcases List.mem_append.1 hy with hy|hy
 ·rcases List.mem_append.1 hy with hy|hy
  ·have:=q1 y hy;omega
  exact hxi.1 y hy
 have:=hv2.1 y hy;omega
theorem suW_takes (ok:m.Ok) (n8:m.next.length≤8) {extra:Int} (h0:0≤extra) (h3:extra≤3) (h:(m.suW extra).2=0) {s:Int} {a:Nat} (hs0:0≤s) (hs1:s<m.minF.next.length) (ha:a<m.inputs.toNat):
    ∃w∈(m.suW extra).1,∃k,k<w.length∧m.minF.endW m.minF.start (w.take k)=s∧w[k]? =some (a:Int):=by
 obtain ⟨u0,u1⟩:=suW_0 ok n8 h0 h3 h
 have okt:=minF_ok ok
 obtain ⟨p,hp,hpe, -, -⟩:=covW_all okt (minF_reach ok) hs0 hs1
 have hx:([(a:Int)]:List Int)∈(uptW m.inputs (extra+1)).1:=uptW_all (by omega) u0 _ (fun y hy=>by rw [List.mem_singleton.1 hy];omega) (by simp;omega)
 obtain ⟨v,hv⟩:=tailW_ne (m:=m.minF) (ids:=(m.minF.idE m.minF.adsL).1) (w:=p++[(a:Int)])
 have hin:(p++[(a:Int)])++v∈suOut m.minF (m.minF.idE m.minF.adsL).1 (m.minF.covW.map Pc.word) (uptW m.inputs (extra+1)).1:=by
  unfold suOut
  refine List.mem_flatMap.2 ⟨p,hp,?_⟩
  unfold sf
  refine List.mem_flatMap.2 ⟨_,hx,?_⟩
  unfold sg
  exact List.mem_map.2 ⟨v,hv,rfl⟩
 obtain ⟨w,hw,⟨z,hz⟩⟩:=maxW_above hin
 refine ⟨w,by rw [u1];exact hw,p.length,?_,?_,?_⟩
 ·rw [←hz];simp
 ·rw [←hz,List.append_assoc,List.append_assoc,List.take_left];exact hpe
 rw [←hz,List.append_assoc,List.append_assoc,List.getElem?_append_right (Nat.le_refl _)];simp
end Mach
end Go.Proofs.YtknhegdepbmmlaaGreat
namespace Go.Proofs.YtknhegdepbmmlaaGreat
open Go.RowKit
section
variable {M MT:Nat→Prop} {w:World} {an ao aT:Option Addr} {cn co cT:Nat} {m:Mach} {T:List Nd}
theorem small11_v (hm:Ma M w an cn ao co m) {v:Bool} (h:m.small11=v):
    Calls Tryz.prog 9 #[maV m an cn ao co] w fun e w'=>e= .returned (.bool v)∧Below w.heap.size w w':=by rw [←h];exact small11_any hm
end
section
variable {M:Nat→Prop} {w:World} {an ao:Option Addr} {cn co:Nat} {m:Mach}
theorem Mach.suW_len (ok:m.Ok) (n8:m.next.length≤8) {extra:Int} (h0:0≤extra) (h3:extra≤3):(m.suW extra).1.length≤10000:=by
 have g4:=(Mach.minF_min ok).2.2.2
 rw [Mach.suW_8 ok n8 h0 h3]
 split
 ·simp
 split
 ·simp
 exact Nat.le_trans (maxW_len _) (Nat.le_trans (suOut_len (Mach.idE_small (by omega))) (by omega))
theorem wordsLaw_any (hm:Ma M w an cn ao co m) (extra:Int) (hx8:0≤extra∧extra<256):Calls Tryz.prog 7 #[maV m an cn ao co,.int .u8 extra] w fun e w'=>e= .returned (.bool true)∧Below w.heap.size w w':=by
 have hB0:=(Below.refl w.heap.size w).alloc (Nat.le_refl _) (maO m an cn ao co)
 have hx0:C4 (w.alloc (maO m an cn ao co)) w.heap.size an cn ao co m:=c4_new w
 have l1:=hm.next.le
 have l2:=hm.out.le
 have HM:=Lib.hid hm
 have hxa:=hx8.1
 have hxb:=hx8.2
 clear hm hx8
 have hcase:m.small11=false∨(m.small11=true∧1<extra)∨(m.small11=true∧¬1<extra∧m.err≠0)∨(m.small11=true∧¬1<extra∧m.err=0):=by
  cases m.small11
  ·exact .inl rfl
  by_cases h1:1<extra
  ·exact .inr (.inl ⟨rfl,h1⟩)
  by_cases h2:m.err=0
  ·exact .inr (.inr (.inr ⟨rfl,h1,h2⟩))
  exact .inr (.inr (.inl ⟨rfl,h1,h2⟩))
 have HSm:Hid (∀v,m.small11=v→Calls Tryz.prog 9 #[maV m an cn ao co] (w.alloc (maO m an cn ao co)) fun e w'=>e= .returned (.bool v)∧Below (w.alloc (maO m an cn ao co)).heap.size (w.alloc (maO m an cn ao co)) w'):=fun v h=>small11_v (HM.out.below hB0) h
 have hz0:w.heap.size<(w.alloc (maO m an cn ao co)).heap.size:=by simp
 go_enter Tryz.func7,Tryz.ntmps7
 go_upto_region 1 with (fail)
 generalize w.alloc (maO m an cn ao co)=w1 at*
 rcases hcase with hs|⟨hs,h1⟩|⟨hs,h1,h2⟩|⟨hs,h1,h2⟩
 ·have HS:=Lib.hid (HSm.out _ hs)
  clear hs HSm
  obtain ⟨d0,d1,d2,d3⟩:=hx0
  go_wp2_with fail
  refine (HS.out).mono ?_
  rintro e w2 ⟨rfl,hb2⟩
  have hB2:=hB0.trans (hb2.mono (by omega))
  clear d0 d1 d2 d3
  go_wp2_with fail
  refine (ex31_any (w:=w2)).mono ?_
  rintro e w3 ⟨rfl,hb3⟩
  have hB3:=hB2.trans (hb3.mono hB2.size)
  go_wp2
  go_ret
  exact ⟨rfl,hB3⟩
 ·have HS:=Lib.hid (HSm.out _ hs)
  have h1d:decide (1<extra)=true:=decide_eq_true h1
  clear hs HSm
  obtain ⟨d0,d1,d2,d3⟩:=hx0
  go_wp2_with fail
  refine (HS.out).mono ?_
  rintro e w2 ⟨rfl,hb2⟩
  have hB2:=hB0.trans (hb2.mono (by omega))
  clear d0 d1 d2 d3
  go_wp2_with fail
  refine (ex31_any (w:=w2)).mono ?_
  rintro e w3 ⟨rfl,hb3⟩
  have hB3:=hB2.trans (hb3.mono hB2.size)
  go_wp2
  go_ret
  exact ⟨rfl,hB3⟩
 ·have HS:=Lib.hid (HSm.out _ hs)
  have h1d:decide (1<extra)=false:=decide_eq_false h1
  have h2d:(m.err !=0)=true:=by simp [h2]
  clear hs HSm h2
  obtain ⟨d0,d1,d2,d3⟩:=hx0
  go_wp2_with fail
  refine (HS.out).mono ?_
  rintro e w2 ⟨rfl,hb2⟩
  have hx2:C4 w2 w.heap.size an cn ao co m:=C4.below ⟨d0,d1,d2,d3⟩ hb2 hz0
  have hB2:=hB0.trans (hb2.mono (by omega))
  have HV:=Lib.hid (valid6_any (HM.out.below hB2))
  clear d0 d1 d2 d3 HS hb2
  obtain ⟨d0,d1,d2,d3⟩:=hx2
  go_wp2_with fail
  refine (HV.out).mono ?_
  rintro e w3 ⟨rfl,hb3⟩
  have hB3:=hB2.trans (hb3.mono hB2.size)
  clear d0 d1 d2 d3
  go_wp2_with fail
  refine (ex31_any (w:=w3)).mono ?_
  rintro e w4 ⟨rfl,hb4⟩
  have hB4:=hB3.trans (hb4.mono hB3.size)
  go_wp2
  go_ret
  exact ⟨rfl,hB4⟩
 have HS:=Lib.hid (HSm.out _ hs)
 have h1d:decide (1<extra)=false:=decide_eq_false h1
 have h2d:(m.err !=0)=false:=by simp [h2]
 have ok:Hid m.Ok:=m.ok_of_err h2
 have n8:=Lib.hid (Mach.small11_t hs).1
 have hex:extra≤1:=by omega
 clear hs HSm h2 h1
 obtain ⟨d0,d1,d2,d3⟩:=hx0
 go_wp2_with fail
 refine (HS.out).mono ?_
 rintro e w2 ⟨rfl,hb2⟩
 have hx2:C4 w2 w.heap.size an cn ao co m:=C4.below ⟨d0,d1,d2,d3⟩ hb2 hz0
 have hB2:=hB0.trans (hb2.mono (by omega))
 have HV:=Lib.hid (valid6_any (HM.out.below hB2))
 clear d0 d1 d2 d3 HS hb2
 have hz2:w.heap.size<w2.heap.size:=lt_of_cell hx2.1
 obtain ⟨d0,d1,d2,d3⟩:=hx2
 go_wp2_with fail
 refine (HV.out).mono ?_
 rintro e w3 ⟨rfl,hb3⟩
 have hx3:C4 w3 w.heap.size an cn ao co m:=C4.below ⟨d0,d1,d2,d3⟩ hb3 hz2
 have hB3:=hB2.trans (hb3.mono hB2.size)
 have hz3:w.heap.size<w3.heap.size:=lt_of_cell hx3.1
 have HSu:=Lib.hid (suite_any (HM.out.below hB3) extra)
 clear d0 d1 d2 d3 HV hb3
 obtain ⟨d0,d1,d2,d3⟩:=hx3
 go_wp2_with fail
 refine (HSu.out).mono ?_
 rintro e w4 ⟨a4,c4,L4,e4,rfl,hE4,hS4,hb4⟩
 have hx4:C4 w4 w.heap.size an cn ao co m:=C4.below ⟨d0,d1,d2,d3⟩ hb4 hz3
 have hB4:=hB3.trans (hb4.mono (by omega))
 have hz4:w.heap.size<w4.heap.size:=lt_of_cell hx4.1
 have HS4:=Lib.hid hS4
 have hl4:=hS4.le
 have hE2:Hid ((m.suW extra).1=L4∧(m.suW extra).2=e4):=by unfold Hid;rw [hE4.out];exact ⟨rfl,rfl⟩
 have he01:e4=0∨e4=11:=by rw [←hE2.out.2];exact Mach.suW_err ok.out n8.out hxa (by omega)
 clear d0 d1 d2 d3 HSu hb4 hS4
 rcases he01 with rfl|rfl
 ·obtain ⟨d0,d1,d2,d3⟩:=hx4
  have ht0:=min_any (HM.out.below hB4)
  rw [Mach.err_of_ok _ ok.out] at ht0
  have HMi:=Lib.hid ht0
  clear ht0
  go_wp2_with fail
  refine (HMi.out).mono ?_
  rintro e w5 ⟨an5,cn5,ao5,co5,t,rfl,ht,hMt,hb5⟩
  have hB5:=hB4.trans (hb5.mono (by omega))
  have hz5:=hB5.size
  have htE:Hid (t=m.minF):=by unfold Hid;rw [ht.out,Mach.minOf_eq (Mach.err_of_ok _ ok.out)]
  have okt:Hid t.Ok:=by rw [htE.out];exact Mach.minF_ok ok.out
  have HMt:=Lib.hid (hMt.ext (M':=fun _=>False) (Ext.sub_only fun _ _ h=>h.elim))
  have HS5:=Lib.hid ((HS4.out.below hb5).anti (M':=fun _=>False) fun _ _ h=>h.elim)
  have lt1:=hMt.next.le
  have lt2:=hMt.out.le
  clear d0 d1 d2 d3 hB4 hz4 HMi hMt hb5 HS4
  go_upto_region 7 with (fail)
  have hba:=(Below.refl w5.heap.size w5).alloc (Nat.le_refl _) (maO t an5 cn5 ao5 co5)
  have hc6:C4 (w5.alloc (maO t an5 cn5 ao5 co5)) w5.heap.size an5 cn5 ao5 co5 t:=c4_new w5
  have hB6:=hB5.trans (hba.mono hz5)
  have HT6:=Lib.hid (HMt.out.below hba)
  have HS6:=Lib.hid (HS5.out.below hba)
  have hz6:w5.heap.size<(w5.alloc (maO t an5 cn5 ao5 co5)).heap.size:=by simp
  clear hba hB5 HMt HS5
  generalize w5.alloc (maO t an5 cn5 ao5 co5)=w6 at*
  have HSu:=Lib.hid (suite_any HT6.out extra)
  obtain ⟨d0,d1,d2,d3⟩:=hc6
  go_wp2_with fail
  refine (HSu.out).mono ?_
  rintro e w7 ⟨a7,c7,L7,e7,rfl,hE7,hS7,hb7⟩
  have hc7:C4 w7 w5.heap.size an5 cn5 ao5 co5 t:=C4.below ⟨d0,d1,d2,d3⟩ hb7 hz6
  have hB7:=hB6.trans (hb7.mono (by omega))
  have HT7:=Lib.hid (HT6.out.below hb7)
  have HS7:=Lib.hid (HS6.out.below hb7)
  have HK7:=Lib.hid (hS7.anti (M':=fun _=>False) fun _ _ h=>h.elim)
  have hz7:w5.heap.size<w7.heap.size:=lt_of_cell hc7.1
  have hLe:Hid (L7=L4∧e7=0):=by
   have h1:=hE7.out
   rw [htE.out,Mach.suW_min ok.out n8.out hxa (by omega),hE4.out] at h1
   simp at h1
   exact ⟨h1.1.symm,h1.2.symm⟩
  have hl7:=hS7.le
  obtain rfl:=hLe.out.2
  have hsu0:Hid ((m.suW extra).2=0):=hE2.out.2
  have hww:Hid (∀x∈L4,wErr x t.inputs=0):=by
   have h1:=Mach.suW_words ok.out n8.out hxa (by omega) hsu0.out
   rw [hE2.out.1] at h1
   unfold Hid;rw [htE.out];exact h1
  have hnn:Hid (L4.length<1000000):=by
   have h1:=Mach.suW_len ok.out n8.out hxa (show extra≤3 by omega)
   rw [hE2.out.1] at h1
   unfold Hid;omega
  have htt:Hid (∀s,s<t.next.length→∀a,a<t.inputs.toNat→∃x∈L4,∃k,k<x.length∧t.endW t.start (x.take k)=(s:Int)∧x[k]? =some (a:Int)):=by
   intro s hs a ha
   rw [htE.out] at hs ha ⊢
   have h1:=Mach.suW_takes ok.out n8.out hxa (by omega) hsu0.out (s:=(s:Int)) (a:=a) (by omega) (by omega) ha
   rw [hE2.out.1] at h1
   exact h1
  have HCo:=Lib.hid (covered_any HT7.out HS7.out okt hww htt)
  clear d0 d1 d2 d3 hB6 hz6 HSu hb7 hS7 HT6 HS6
  obtain ⟨d0,d1,d2,d3⟩:=hc7
  go_wp2_with fail
  refine (HCo.out).mono ?_
  rintro e w8 ⟨rfl,hb8⟩
  have hc8:C4 w8 w5.heap.size an5 cn5 ao5 co5 t:=C4.below ⟨d0,d1,d2,d3⟩ hb8 hz7
  have hB8:=hB7.trans (hb8.mono (by omega))
  have HS8:=Lib.hid (HS7.out.below hb8)
  have HK8:=Lib.hid (HK7.out.below hb8)
  have hz8:w5.heap.size<w8.heap.size:=lt_of_cell hc8.1
  have HSa:=same10 HK8.out HS8.out
  rw [decide_eq_true hLe.out.1] at HSa
  have HSa:=Lib.hid HSa
  have hmx:Hid (maxW L4=L4):=by
   have h1:=(Mach.suW_0 ok.out n8.out hxa (by omega) hsu0.out).2
   rw [hE2.out.1] at h1
   unfold Hid;rw [h1,maxW_idem]
  have hsm:Hid (Small9 L4):=⟨by have:=hnn.out;omega,fun r hr=>by have:=(Mach.okS_of (hww.out r hr)).2;omega⟩
  clear d0 d1 d2 d3 hB7 hz7 HCo hb8 HS7 HK7 HT7
  obtain ⟨d0,d1,d2,d3⟩:=hc8
  go_wp2_with fail
  refine (HSa.out).mono ?_
  rintro e w9 ⟨rfl,n9,rfl⟩
  have hb9:=below_drewN w8.heap.size w8 n9
  have hc9:C4 (w8.drewN n9) w5.heap.size an5 cn5 ao5 co5 t:=C4.below ⟨d0,d1,d2,d3⟩ hb9 hz8
  have hB9:=bl_drewN hB8 n9
  have HS9:=Lib.hid (HS8.out.below hb9)
  have hz9:w5.heap.size<(w8.drewN n9).heap.size:=lt_of_cell hc9.1
  generalize w8.drewN n9=w9 at*
  have HMx:=Lib.hid (max_any HS9.out hsm)
  clear d0 d1 d2 d3 hB8 HSa hb9 HS8 HK8
  obtain ⟨d0,d1,d2,d3⟩:=hc9
  go_wp2_with fail
  refine (HMx.out).mono ?_
  rintro e w10 ⟨a10,c10,L10,rfl,hL10,hS10,hb10⟩
  have hc10:C4 w10 w5.heap.size an5 cn5 ao5 co5 t:=C4.below ⟨d0,d1,d2,d3⟩ hb10 hz9
  have hB10:=hB9.trans (hb10.mono (by omega))
  have HS10:=Lib.hid (HS9.out.below hb10)
  have hz10:w5.heap.size<w10.heap.size:=lt_of_cell hc10.1
  have hl10:=hS10.le
  have HSb:=same10 (hS10.anti (M':=fun _=>False) fun _ _ h=>h.elim) HS10.out
  rw [decide_eq_true (hL10.out.trans hmx.out)] at HSb
  have HSb:=Lib.hid HSb
  clear d0 d1 d2 d3 hB9 HMx hb10 HS9 hS10 hz9
  obtain ⟨d0,d1,d2,d3⟩:=hc10
  go_wp2_with fail
  refine (HSb.out).mono ?_
  rintro e w11 ⟨rfl,n11,rfl⟩
  have hb11:=below_drewN w10.heap.size w10 n11
  have hc11:C4 (w10.drewN n11) w5.heap.size an5 cn5 ao5 co5 t:=C4.below ⟨d0,d1,d2,d3⟩ hb11 hz10
  have hB11:=bl_drewN hB10 n11
  generalize w10.drewN n11=w11 at*
  have hmul:IntKind.i64.wrap ((t.next.length:Int)*t.inputs)=((t.next.length*t.inputs.toNat:Nat):Int):=by
   have h1:=okt.out.n1
   have h2:=okt.out.i0
   have h3:=okt.out.i1
   obtain ⟨q,hq⟩:=Int.eq_ofNat_of_zero_le (show 0≤t.inputs by omega)
   have h4:t.next.length*q≤65536*65536:=Nat.mul_le_mul (by omega) (by omega)
   have h5:(t.next.length:Int)*t.inputs=((t.next.length*q:Nat):Int):=by rw [hq,Int.natCast_mul]
   rw [h5,hq,Int.toNat_natCast]
   exact IntWalk.i64_in _ (by omega)
  clear d0 d1 d2 d3 hB10 HSb hb11 HS10
  obtain ⟨d0,d1,d2,d3⟩:=hc11
  go_wp2_with fail
  refine (ex31_any (w:=w11)).mono ?_
  rintro e w12 ⟨rfl,hb12⟩
  have hB12:=hB11.trans (hb12.mono hB11.size)
  go_wp2
  go_ret
  exact ⟨rfl,hB12⟩
 obtain ⟨d0,d1,d2,d3⟩:=hx4
 go_wp2_with fail
 refine (ex31_any (w:=w4)).mono ?_
 rintro e w5 ⟨rfl,hb5⟩
 have hB5:=hB4.trans (hb5.mono hB4.size)
 go_wp2
 go_ret
 exact ⟨rfl,hB5⟩
end
end Go.Proofs.YtknhegdepbmmlaaGreat
