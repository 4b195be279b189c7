/- Several texts, one behind the other. Conditions: as each of them says. -/
import Derived.Test.YtknhegdepbmmlaaGreatMt20
import Derived.Test.YtknhegdepbmmlaaGreatMt15
import Derived.Test.YtknhegdepbmmlaaGreatMt6
import Derived.Test.YtknhegdepbmmlaaGreatMt4
set_option maxRecDepth 100000
set_option maxHeartbeats 32000000
namespace Go.Proofs.YtknhegdepbmmlaaGreat
open Go.RowKit
def ansW (o:Option (List Int)) (l:List Int) (f:Bool):Prop:=l=o.getD []∧f=o.isSome
theorem info_Pair:(Tryz.prog.info? 166).map (fun i=>(i.zero,i.size,i.bytes))=some (some (.agg #[.int .i64 0,.int .i64 0,.slice none 0 0]),3,40):=by kernel_rfl
section
variable {M:Nat→Prop} {w:World} {an ao bn bo:Option Addr} {acn aco bcn bco:Nat} {a b:Mach}
theorem firstR_any (ha:Ma M w an acn ao aco a) (hb:Ma M w bn bcn bo bco b) (ea:a.err=0) (eb:b.err=0) (hi:a.inputs=b.inputs) (s t:Nat) (hs:s<a.next.length) (ht:t<b.next.length):
    Calls Tryz.prog 79 #[maV a an acn ao aco,maV b bn bcn bo bco,.int .i64 s,.int .i64 t] w fun e w'=>
     ∃ad c l f,e= .returned (.tuple #[.slice ad l.length c,.bool f])∧Hid (ansW (firstW a b s t) l f)∧Sl (fun k=>k<w.heap.size) w' ad c l∧Below w.heap.size w w':=by
 have OA:=Lib.hid (a.ok_of_err ea)
 have OB:=Lib.hid (b.ok_of_err eb)
 have HI:=Lib.hid hi
 obtain ⟨nb,no,ob,oo,rfl,rfl⟩:=ha.addr OA.out
 obtain ⟨nb',no',ob',oo',rfl,rfl⟩:=hb.addr OB.out
 have hi0:=OA.out.i0
 have hi1:=OA.out.i1
 have hn1:=OA.out.n1
 have hn1':=OB.out.n1
 have HA:=Lib.hid ha
 have HB:=Lib.hid hb
 have hle:a.next.length*b.next.length≤16384:=Nat.mul_le_mul hn1 hn1'
 have hN:∀l i,srch a b s t i=(l,none)→GoodP a b l:=fun l i h=>by
  have:=GoodP.srch OA.out OB.out hi (s:=s) (t:=t) ⟨by omega,by omega⟩ ⟨by omega,by omega⟩ i
  rw [h] at this
  exact this
 have HN:=Lib.hid hN
 clear ea eb hi ha hb hN
 obtain ⟨w2,hw2⟩:∃w2,w2=(w.alloc (maO a (some ⟨nb,no,none⟩) acn (some ⟨ob,oo,none⟩) aco)).alloc (maO b (some ⟨nb',no',none⟩) bcn (some ⟨ob',oo',none⟩) bco):=⟨_,rfl⟩
 have hsz2:w2.heap.size=w.heap.size+2:=by rw [hw2];simp
 have hA2:C4 w2 w.heap.size (some ⟨nb,no,none⟩) acn (some ⟨ob,oo,none⟩) aco a:=by rw [hw2];exact (c4_new w).below (B:=w.heap.size+1) ((Below.refl _ _).alloc (by simp) _) (by omega)
 have hB2:C4 w2 (w.heap.size+1) (some ⟨nb',no',none⟩) bcn (some ⟨ob',oo',none⟩) bco b:=by rw [hw2];simpa using c4_new (m:=b) (an:=(some ⟨nb',no',none⟩)) (cn:=bcn) (ao:=(some ⟨ob',oo',none⟩)) (co:=bco) (w.alloc (maO a (some ⟨nb,no,none⟩) acn (some ⟨ob,oo,none⟩) aco))
 have hbl2:Below w.heap.size w w2:=by rw [hw2];exact ((Below.refl _ _).alloc (Nat.le_refl _) _).alloc (by simp) _
 go_enter Tryz.func79,Tryz.ntmps79
 go_wp2
 rw [←hw2]
 have hq0:Qu 0 (w.heap.size+2) (w2.alloc (.cells #[.int .i64 s,.int .i64 t,.slice none 0 0] 166)) 166 (.slice (some ⟨w.heap.size+1+1,0,none⟩) 1 1) [⟨s,t,[]⟩]:=by
  have:=Qu.one (N:=0) (T:=166) (s:=(s:Int)) (t:=(t:Int)) (B:=w.heap.size+2) (w:=w2) (by unfold i64;omega) (by unfold i64;omega) (by omega)
  rw [hsz2] at this
  exact this
 have hb0:Below (w.heap.size+2) w2 (w2.alloc (.cells #[.int .i64 s,.int .i64 t,.slice none 0 0] 166)):=(Below.refl _ _).alloc (by omega) _
 have hz2:w.heap.size+2≤w2.heap.size:=by omega
 have hz2':w2.heap.size≤w.heap.size+2:=by omega
 clear hw2 hsz2
 go_loopw [10,11] (fun vl vi wr=>∃(i:Nat) (l:List Pl) (aq:Option Addr) (cq:Nat),i≤l.length∧vi= .int .i64 i∧vl= .slice aq l.length cq∧Hid (srch a b s t i=(l,none))∧
  Qu 0 (w.heap.size+2) wr 166 (.slice aq l.length cq) l∧Below (w.heap.size+2) w2 wr) (fun _ vi _=>a.next.length*b.next.length+1-(intOf vi).toNat)
 case atStart=>exact ⟨0,[⟨s,t,[]⟩],_,_,by omega,rfl,rfl,rfl,hq0,hb0⟩
 case round=>
  clear hq0 hb0
  obtain ⟨i,l,aq,cq,hil,rfl,rfl,hS,hQ,hB⟩:=hrel
  obtain ⟨w3,rfl⟩:∃w3:World,w3=wr:=⟨_,rfl⟩
  have hG:Hid (GoodP a b l):=HN.out l i hS.out
  have hgl:l.length≤a.next.length*b.next.length:=hG.out.le
  by_cases hlt:i<l.length
  ·obtain ⟨p,hp⟩:∃p,l[i]? =some p:=⟨_,List.getElem?_eq_getElem hlt⟩
   have HP:=Lib.hid hp
   have hpm:Hid (p∈l):=List.mem_of_getElem? hp
   obtain ⟨r1,r2,r3,r4⟩:=hG.out.range p hpm.out
   have hwl:p.word.length≤16384:=by have:=hG.out.word p hpm.out;omega
   clear hp
   obtain ⟨ps,pt,pw⟩:=p
   simp only at r1 r2 r3 r4 hwl
   obtain ⟨ps,rfl⟩:=Int.eq_ofNat_of_zero_le r1
   obtain ⟨pt,rfl⟩:=Int.eq_ofNat_of_zero_le r3
   have q2:ps<a.next.length:=by omega
   have q4:pt<b.next.length:=by omega
   have q2o:ps<a.out.length:=by rw [OA.out.lo];exact q2
   have q4o:pt<b.out.length:=by rw [OB.out.lo];exact q4
   clear r1 r2 r3 r4
   go_wp2
   go_loopw [10,12] (fun vl vx wr=>∃(x:Nat) (l2:List Pl) (aq:Option Addr) (cq:Nat),x≤a.inputs.toNat∧vx= .int .i64 x∧vl= .slice aq l2.length cq∧Hid (scan a b ⟨ps,pt,pw⟩ l x=(l2,none))∧
    Qu 0 (w.heap.size+2) wr 166 (.slice aq l2.length cq) l2∧Below (w.heap.size+2) w2 wr) (fun _ vx _=>a.inputs.toNat-(intOf vx).toNat)
   case atStart=>exact ⟨0,l,aq,cq,by omega,rfl,rfl,rfl,hQ,hB⟩
   case round=>
    clear hQ hB
    obtain ⟨x,l2,aq2,cq2,hx,rfl,rfl,hS2,hQ,hB⟩:=hrel
    obtain ⟨w4,rfl⟩:∃w4:World,w4=wr:=⟨_,rfl⟩
    have hp2:Hid (l2[i]? =some ⟨ps,pt,pw⟩):=by
     obtain ⟨r,hr⟩:=scan_cases a b ⟨ps,pt,pw⟩ l x
     rw [hS2.out] at hr
     simp only at hr
     unfold Hid
     rw [hr,List.getElem?_append_left hlt]
     exact HP.out
    have hG2:Hid (GoodP a b l2):=by
     have:=hG.out.scan OA.out OB.out HI.out hpm.out x hx
     rw [hS2.out] at this
     exact this
    have hgl2:l2.length≤a.next.length*b.next.length:=hG2.out.le
    have hil2:i<l2.length:=by
     by_cases e:i<l2.length
     ·exact e
     have:=hp2.out;rw [List.getElem?_eq_none (by omega)] at this;simp at this
    have hz4:w.heap.size+2≤w4.heap.size:=by have:=hB.size;omega
    obtain ⟨cA0,cA1,cA2,cA3⟩:=hA2.below hB (by omega)
    by_cases hlx:x<a.inputs.toNat
    ·have hlx2:x<b.inputs.toNat:=by rw [←HI.out];exact hlx
     obtain ⟨gq,ad,cw,rfl,hq0,hq1,hq2,hqw, -, -, -⟩:=hQ.at hp2.out
     have HE:=Lib.hid (extended_any (x:Int) (by unfold i64;omega) hqw (by simp only;omega))
     go_wp2_with fail
     refine (HE.out).mono ?_
     rintro e w5 ⟨aw,cw2,wd,rfl,hwd,hSw,hb5⟩
     clear cA0 cA1 cA2 cA3 hq0 hq1 hq2 hqw HE
     have hQ5:=hQ.later hb5
     have hB5:=hB.trans (hb5.mono hz4)
     have hz5:=hb5.size
     have hSw2:Sl (mayQ 0 (.slice (some ⟨gq,0,none⟩) l2.length cq2)) w5 aw cw2 wd:=hSw.anti fun k _ hk=>hk.elim (fun e=>(hQ.lt k e).2) (fun e=>absurd e (Nat.not_lt_zero k))
     replace hSw:Sl (fun k=>k<w.heap.size) w5 aw cw2 wd:=hSw.anti fun k _ hk=>by omega
     clear hQ hB hb5
     obtain ⟨cA0,cA1,cA2,cA3⟩:=hA2.below hB5 (by omega)
     obtain ⟨cB0,cB1,cB2,cB3⟩:=hB2.below hB5 (by omega)
     obtain ⟨gq', -, -,hgq,hq0,hq1, -, -, -, -, -⟩:=hQ5.at hp2.out
     obtain rfl:gq=gq':=by simpa using hgq
     obtain ⟨b1,o1,c1,l1,b3,o3,c3,l3,n,y,e1,e2,e3,e4,e5,e6,e7,e8,e9,e10,e11,e12,e13⟩:=(HA.out.below (hbl2.trans (hB5.mono (by omega)))).atS OA.out q2 hlx
     obtain ⟨b1',o1',c1',l1',b3',o3',c3',l3',n',y',d1,d2,d3,d4,d5,d6,d7,d8,d9,d10,d11,d12,d13⟩:=(HB.out.below (hbl2.trans (hB5.mono (by omega)))).atS OB.out q4 hlx2
     by_cases hy:y=y'
     ·have hyb:(y !=y')=false:=by simp [hy]
      have HY:=Lib.hid hy
      clear hy
      go_wp2
      refine wp_quiet_fast (by kernel_rfl) (by kernel_rfl) ?_
      repeat (first|go_big_quiet_step (fail)|quiet_step (fail))
      refine wpQuiet_nil ?_
      intro _ hw'
      obtain ⟨nq,hw''⟩:=hw'
      subst hw''
      revert nq
      intro nqa
      go_wp2
      refine wp_quiet_fast (by kernel_rfl) (by kernel_rfl) ?_
      repeat (first|go_big_quiet_step (fail)|quiet_step (fail))
      refine wpQuiet_nil ?_
      intro _ hw'
      obtain ⟨nq,hw''⟩:=hw'
      subst hw''
      have hQ6:Qu 0 (w.heap.size+2) ((w5.drewN nqa).drewN nq) 166 (.slice (some ⟨gq,0,none⟩) l2.length cq2) l2:=(hQ5.drewN nqa).drewN nq
      have hB6:Below (w.heap.size+2) w2 ((w5.drewN nqa).drewN nq):=bl_drewN (bl_drewN hB5 nqa) nq
      have hS6:=(hSw2.drewN nqa).drewN nq
      have hz6:w4.heap.size≤((w5.drewN nqa).drewN nq).heap.size:=hz5
      clear hQ5 hB5 hSw2 hSw hz5 hq0 hq1 cA0 cA1 cA2 cA3 cB0 cB1 cB2 cB3 e1 e2 e3 e4 d1 d2 d3 d4
      go_wp2
      have hk0:Hid (false=known (l2.take 0) n n'):=by unfold Hid;simp [known]
      go_loopw [16,17] (fun vk vi wr=>∃(k:Nat) (f:Bool),k≤l2.length∧vi= .int .i64 k∧vk= .bool f∧Hid (f=known (l2.take k) n n')∧Qu 0 (w.heap.size+2) wr 166 (.slice (some ⟨gq,0,none⟩) l2.length cq2) l2∧
       Below (w.heap.size+2) w2 wr∧Sl (mayQ 0 (.slice (some ⟨gq,0,none⟩) l2.length cq2)) wr aw cw2 wd∧w4.heap.size≤wr.heap.size) (fun _ vi _=>l2.length-(intOf vi).toNat)
      case atStart=>exact ⟨0,false,by omega,rfl,rfl,hk0,hQ6,hB6,hS6,hz6⟩
      case round=>
       clear hQ6 hB6 hS6 hz6 hk0
       obtain ⟨k,f,hk,rfl,rfl,hf,hQ7,hB7,hS7,hz7⟩:=hrel
       obtain ⟨w7,rfl⟩:∃w7:World,w7=wr:=⟨_,rfl⟩
       by_cases hkl:k<l2.length
       ·obtain ⟨q,hq⟩:∃q,l2[k]? =some q:=⟨_,List.getElem?_eq_getElem hkl⟩
        have HQ:=Lib.hid hq
        clear hq
        have hks:Hid (known (l2.take (k+1)) n n'=(f||decide (q.s=n∧q.t=n'))):=by
         unfold Hid;rw [List.take_add_one,HQ.out];simp only [Option.toList_some];rw [known_snoc,←hf.out]
        cases f with
        |true=>
         go_wp2
         go_roundw
         case rel=>exact ⟨k+1,true,by omega,by go_num,rfl,by unfold Hid;rw [hks.out];rfl,hQ7,hB7,hS7,hz7⟩
         case measure=>simp [intOf];omega
        |false=>
         obtain ⟨gq', -, -,hgq,hq0,hq1, -, -, -, -, -⟩:=hQ7.at HQ.out
         obtain rfl:gq=gq':=by simpa using hgq
         obtain ⟨qs,qt,qw⟩:=q
         simp only at hq0 hq1
         by_cases h1:qs=(n:Int)
         ·have h1':(qs==(n:Int))=true:=by simp [h1]
          have H1:=Lib.hid h1
          clear h1
          by_cases h2:qt=(n':Int)
          ·have h2':(qt==(n':Int))=true:=by simp [h2]
           have hk1:Hid (true=known (l2.take (k+1)) n n'):=by unfold Hid;rw [hks.out];have:=H1.out;simp [this,h2]
           clear h2
           go_wp2
           go_roundw
           case rel=>exact ⟨k+1,true,by omega,by go_num,rfl,hk1,hQ7,hB7,hS7,hz7⟩
           case measure=>simp [intOf];omega
          have h2':(qt==(n':Int))=false:=by simp [h2]
          have hk1:Hid (false=known (l2.take (k+1)) n n'):=by unfold Hid;rw [hks.out];simp [h2]
          clear h2
          go_wp2
          go_roundw
          case rel=>exact ⟨k+1,false,by omega,by go_num,rfl,hk1,hQ7,hB7,hS7,hz7⟩
          case measure=>simp [intOf];omega
         have h1':(qs==(n:Int))=false:=by simp [h1]
         have hk1:Hid (false=known (l2.take (k+1)) n n'):=by unfold Hid;rw [hks.out];simp [h1]
         clear h1
         go_wp2
         go_roundw
         case rel=>exact ⟨k+1,false,by omega,by go_num,rfl,hk1,hQ7,hB7,hS7,hz7⟩
         case measure=>simp [intOf];omega
       have hf2:Hid (f=known l2 n n'):=by unfold Hid;rw [hf.out,List.take_of_length_le (by omega)]
       have hsd:Hid (a.ot (((ps:Nat):Int)).toNat x=b.ot (((pt:Nat):Int)).toNat x):=by unfold Hid;rw [Int.toNat_natCast,Int.toNat_natCast,e9.out,d9.out];exact HY.out
       have hnx:Hid (a.nx (((ps:Nat):Int)).toNat x=n∧b.nx (((pt:Nat):Int)).toNat x=n'):=by unfold Hid;rw [Int.toNat_natCast,Int.toNat_natCast,e8.out,d8.out];exact ⟨rfl,rfl⟩
       cases f with
       |true=>
        have hS3:Hid (scan a b ⟨ps,pt,pw⟩ l (x+1)=(l2,none)):=scan_old hS2.out hsd.out (by simp only;rw [hnx.out.1,hnx.out.2];exact hf2.out.symm)
        go_wp2
        go_roundw
        case rel=>exact ⟨x+1,l2,_,_,by omega,by go_num,rfl,hS3,hQ7,hB7⟩
        case measure=>simp [intOf];omega
       |false=>
        have hS3:Hid (scan a b ⟨ps,pt,pw⟩ l (x+1)=(l2++[⟨n,n',wd⟩],none)):=by
         have h1:=scan_new hS2.out hsd.out (by simp only;rw [hnx.out.1,hnx.out.2];exact hf2.out.symm)
         simp only at h1
         rw [hnx.out.1,hnx.out.2,←hwd.out] at h1
         exact h1
        have hzs:w.heap.size+2≤w7.heap.size:=by omega
        have hQa:=hQ7.alloc (.cells #[.int .i64 n,.int .i64 n',.slice aw wd.length cw2] 166)
        have hSa:=hS7.alloc (.cells #[.int .i64 n,.int .i64 n',.slice aw wd.length cw2] 166)
        clear hQ7 hS7
        go_wp2_with (at_builtin;refine wpList_push_pl (N:=0) (B:=w.heap.size+2) (l:=l2) (q:=⟨n,n',wd⟩) rfl rfl Tryz.underlying167 info_Pair rfl rfl rfl hQa (by simp [go_sem]) (by simp [go_sem]) (by simp [go_sem]) hSa (by unfold i64;simp only;omega) (by unfold i64;simp only;omega) (by omega) (by simp;omega) ?_)
        intro a8 c8 l8 w8 hl8 hQ8 hbk8 hgr8
        have hB8:Below (w.heap.size+2) w2 w8:=(hB7.alloc (by omega) _).grown hgr8 (by simp;omega) (fun q hq=>(hQa.lt q hq).1)
        go_wp2
        go_roundw
        case rel=>exact ⟨x+1,l8,a8,c8,by omega,by go_num,rfl,by unfold Hid;rw [hl8.out];exact hS3.out,hQ8,hB8⟩
        case measure=>simp [intOf];omega
     have hyb:(y !=y')=true:=by simp [hy]
     have HF:=Lib.hid (first_found hS.out HP.out (scan_diff hS2.out (by simp only [Int.toNat_natCast];rw [e9.out,d9.out];exact hy)) (by omega) (by omega))
     clear hy
     go_wp2
     refine wp_quiet_fast (by kernel_rfl) (by kernel_rfl) ?_
     repeat (first|go_big_quiet_step (fail)|quiet_step (fail))
     refine wpQuiet_nil ?_
     intro _ hw'
     obtain ⟨nq,hw''⟩:=hw'
     subst hw''
     go_wp2
     go_ret2
     refine ⟨aw,cw2,wd,true,rfl,?_,hSw.drewN _,bl_drewN (hbl2.trans (hB5.mono (by omega))) _⟩
     unfold Hid ansW
     rw [HF.out,hwd.out]
     exact ⟨rfl,rfl⟩
    go_wp2
    go_roundw
    case rel=>exact ⟨i+1,l2,aq2,cq2,by omega,by go_num,rfl,by unfold Hid;rw [srch_step hS.out HP.out,←hS2.out,show a.inputs.toNat=x by omega],hQ,hB⟩
    case measure=>simp [intOf];omega
  have HF:=Lib.hid (first_none hS.out (by omega) (by omega))
  have hbf:=hbl2.trans (hB.mono (by omega))
  go_wp2
  go_ret2
  refine ⟨none,0,[],false,rfl,?_,Sl.nil _ _ _ (by unfold maxLen;omega),hbf⟩
  unfold Hid ansW
  rw [HF.out]
  exact ⟨rfl,rfl⟩
end
end Go.Proofs.YtknhegdepbmmlaaGreat
