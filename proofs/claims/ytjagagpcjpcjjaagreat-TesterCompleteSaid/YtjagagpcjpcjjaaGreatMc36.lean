/- Several texts, one behind the other. Conditions: as each of them says. -/
import Derived.Test.YtjagagpcjpcjjaaGreatMc33
import Derived.Test.YtjagagpcjpcjjaaGreatMc7
import Derived.Test.YtjagagpcjpcjjaaGreatMc4
import Derived.Test.YtjagagpcjpcjjaaGreatMc3
import Derived.Laws.StructEq
set_option maxRecDepth 100000
set_option maxHeartbeats 32000000
namespace Go.Proofs.YtjagagpcjpcjjaaGreat
open Go.RowKit
theorem info_place:(Tryz.prog.info? 214).map (fun i=>(i.zero,i.size,i.bytes))=some (some (.agg #[.int .i64 0,.int .i64 0,.slice none 0 0]),3,40):=by kernel_rfl
theorem known_one (s t s' t':Int):known [⟨s,t,[]⟩] s' t'=decide (s=s'∧t=t'):=by simp [known]
theorem join_two {M:Nat→Prop} {w:World} {ad:Option Addr} {cw:Nat} {pw:List Int} {x:Int} (h:Sl M w ad cw pw) (hx:i64 x) (hl:pw.length<100000000000):
    Calls Tryz.prog 79 #[.slice (some ⟨w.heap.size+1,0,none⟩) 2 2] ((w.alloc (.cells #[.int .i64 x] 3)).alloc (.cells #[.slice ad pw.length cw,.slice (some ⟨w.heap.size,0,none⟩) 1 1] 49)) fun e w'=>
     ∃a' c' l',e= .returned (.slice a' l'.length c')∧Hid (l'=pw++[x])∧Sl (fun k=>k<w.heap.size) w' a' c' l'∧Below w.heap.size w w':=by
 have hs:(w.alloc (.cells #[.int .i64 x] 3)).heap.size=w.heap.size+1:=by simp
 have h0:((w.alloc (.cells #[.int .i64 x] 3)).alloc (.cells #[.slice ad pw.length cw,.slice (some ⟨w.heap.size,0,none⟩) 1 1] 49)).heap[w.heap.size+1]? =some (.cells #[.slice ad pw.length cw,.slice (some ⟨w.heap.size,0,none⟩) 1 1] 49):=by
  rw [←hs];exact heap_alloc_new _ _
 have h1:((w.alloc (.cells #[.int .i64 x] 3)).alloc (.cells #[.slice ad pw.length cw,.slice (some ⟨w.heap.size,0,none⟩) 1 1] 49)).heap[w.heap.size]? =some (.cells #[.int .i64 x] 3):=heap_old (heap_alloc_new _ _)
 have hS:Sl (fun _=>False) ((w.alloc (.cells #[.int .i64 x] 3)).alloc (.cells #[.slice ad pw.length cw,.slice (some ⟨w.heap.size,0,none⟩) 1 1] 49)) (some ⟨w.heap.size+1,0,none⟩) 2 [pw,[x]]:=by
  refine Sl.litr (vs:= #[.slice ad pw.length cw,.slice (some ⟨w.heap.size,0,none⟩) 1 1]) (T:=49) h0 (fun e=>e) rfl (by unfold maxLen;omega) fun j r hj=> ?_
  match j,hj with
  | 0, hj => obtain rfl : pw = r := by simpa using hj
             exact ⟨ad,cw,rfl,((h.anti (M':=fun _=>False) fun _ _ e=>e.elim).alloc _).alloc _⟩
  | 1, hj => obtain rfl : [x] = r := by simpa using hj
             exact ⟨_,1,rfl,Sl.lit h1 rfl (fun e=>e) (fun y hy=>by simp at hy;subst hy;exact hx) rfl (by unfold maxLen;omega)⟩
  |j+2,hj=>simp at hj
 refine (join_any hS (by simp;omega)).mono ?_
 rintro e w' ⟨a',c',l',rfl,hl',hS',hB'⟩
 refine ⟨a',c',l',rfl,by unfold Hid;rw [hl'.out];simp,hS'.anti (fun k _ hk=>by simp;omega),?_⟩
 exact (((Below.refl _ _).alloc (Nat.le_refl _) _).alloc (by simp) _).trans (hB'.mono (by simp;omega))
section
variable {M:Nat→Prop} {w:World} {an ao bn bo:Option Addr} {acn aco bcn bco:Nat} {a b:Mach}
theorem search_any (ha:Ma M w an acn ao aco a) (hb:Ma M w bn bcn bo bco b) (ea:a.err=0) (eb:b.err=0) (hi:a.inputs=b.inputs) (s t:Nat) (hs:s<a.next.length) (ht:t<b.next.length):
    Calls Tryz.prog 123 #[maV a an acn ao aco,maV b bn bcn bo bco,.agg #[.int .i64 s,.int .i64 t]] w fun e w'=>
     ∃ad c l f,e= .returned (.tuple #[.slice ad l.length c,.bool f])∧Hid (ansW (firstW a b s t) l f)∧Sl (fun k=>k<w.heap.size) w' ad c l∧Below w.heap.size w w':=by
 have OA:=Lib.hid (a.ok_of_err ea)
 have OB:=Lib.hid (b.ok_of_err eb)
 have HI:=Lib.hid hi
 obtain ⟨nb,no,ob,oo,rfl,rfl⟩:=ha.addr OA.out
 obtain ⟨nb',no',ob',oo',rfl,rfl⟩:=hb.addr OB.out
 have hi0:=OA.out.i0
 have hi1:=OA.out.i1
 have hn1:=OA.out.n1
 have hn1':=OB.out.n1
 have HA:=Lib.hid ha
 have HB:=Lib.hid hb
 have hle:a.next.length*b.next.length≤16384:=Nat.mul_le_mul hn1 hn1'
 have hN:∀l i,srch a b s t i=(l,none)→GoodP a b l:=fun l i h=>by
  have:=GoodP.srch OA.out OB.out hi (s:=s) (t:=t) ⟨by omega,by omega⟩ ⟨by omega,by omega⟩ i
  rw [h] at this
  exact this
 have HN:=Lib.hid hN
 clear ea eb hi ha hb hN
 obtain ⟨wA,hwA⟩:∃wA,wA=w.alloc (maO a (some ⟨nb,no,none⟩) acn (some ⟨ob,oo,none⟩) aco):=⟨_,rfl⟩
 obtain ⟨wB,hwB⟩:∃wB,wB=wA.alloc (maO b (some ⟨nb',no',none⟩) bcn (some ⟨ob',oo',none⟩) bco):=⟨_,rfl⟩
 obtain ⟨w2,hw2⟩:∃w2,w2=wB.alloc (.cells #[.int .i64 s,.int .i64 t] 160):=⟨_,rfl⟩
 have hszA:wA.heap.size=w.heap.size+1:=by rw [hwA];simp
 have hszB:wB.heap.size=w.heap.size+1+1:=by rw [hwB];simp [hszA]
 have hsz2:w2.heap.size=w.heap.size+3:=by rw [hw2];simp [hszB]
 have hA1:C4 wA w.heap.size (some ⟨nb,no,none⟩) acn (some ⟨ob,oo,none⟩) aco a:=by rw [hwA];exact c4_new w
 have hB1:C4 wB (w.heap.size+1) (some ⟨nb',no',none⟩) bcn (some ⟨ob',oo',none⟩) bco b:=by rw [←hszA,hwB];exact c4_new wA
 have bAB:Below wA.heap.size wA wB:=by rw [hwB];exact (Below.refl _ _).alloc (Nat.le_refl _) _
 have bB2:Below wB.heap.size wB w2:=by rw [hw2];exact (Below.refl _ _).alloc (Nat.le_refl _) _
 have b0A:Below w.heap.size w wA:=by rw [hwA];exact (Below.refl _ _).alloc (Nat.le_refl _) _
 have hA2:C4 w2 w.heap.size (some ⟨nb,no,none⟩) acn (some ⟨ob,oo,none⟩) aco a:=(hA1.below bAB (by omega)).below bB2 (by omega)
 have hB2:C4 w2 (w.heap.size+1) (some ⟨nb',no',none⟩) bcn (some ⟨ob',oo',none⟩) bco b:=hB1.below bB2 (by omega)
 have hP2:w2.cell? ⟨w.heap.size+1+1,0,none⟩=some (.int .i64 s)∧w2.cell? ⟨w.heap.size+1+1,1,none⟩=some (.int .i64 t):=by
  rw [←hszB,hw2];constructor<;>simp
 have hbl2:Below w.heap.size w w2:=(b0A.trans (bAB.mono (by omega))).trans (bB2.mono (by omega))
 go_enter Tryz.func123,Tryz.ntmps123
 go_wp2_with (at_make;refine wpList_mk_exact rfl _ _ _ rfl 205 (.slice none 0 0) 24 Tryz.underlying212 info_bools rfl a.next.length rfl rfl (by omega) (by unfold maxLen;omega) ?_)
 rw [←hwA,←hwB,←hw2]
 have hz2:w.heap.size+3≤w2.heap.size:=by omega
 have hz2':w2.heap.size≤w.heap.size+3:=by omega
 obtain ⟨g,hg⟩:∃g,g=w.heap.size+1+1+1:=⟨_,rfl⟩
 have hGB:=GridB.init w2 a.next.length b.next.length
 rw [show w2.heap.size=g by omega] at hGB
 have HGB:=Lib.hid hGB
 have hb0:Below (w.heap.size+3) w2 (w2.alloc (.cells (madeCells #[.slice none 0 0] a.next.length) 205)):=(Below.refl _ _).alloc (by omega) _
 rw [←hg]
 have hg1:w.heap.size+3≤g:=by omega
 have hg2:g≤w.heap.size+3:=by omega
 clear hGB hg hwA hwB hw2 hszA hszB hsz2 hA1 hB1 bAB bB2 b0A
 go_wp2
 go_loopw [21] (fun vi wr=>∃k:Nat,k≤a.next.length∧vi= .int .i64 k∧Hid (GridB wr g a.next.length b.next.length k)∧Below (w.heap.size+3) w2 wr) (fun vi _=>a.next.length-(intOf vi).toNat)
 case atStart=>exact ⟨0,by omega,rfl,HGB,hb0⟩
 case round=>
  clear HGB hb0
  obtain ⟨k,hk,rfl,hGB,hB⟩:=hrel
  obtain ⟨w3,rfl⟩:∃w3:World,w3=wr:=⟨_,rfl⟩
  by_cases hlt:k<a.next.length
  ·obtain ⟨cB0,cB1,cB2,cB3⟩:=hB2.below hB (by omega)
   obtain ⟨v,hv,hvf⟩:∃v,w3.cell? ⟨g,k,none⟩=some v∧w3.frozen? ⟨g,k,none⟩=false:=by
    obtain ⟨cur,h1,h2, -⟩:=hGB.out.outer
    exact ⟨cur[k],by rw [cell_of_row _ _ _ _ _ _ h1];exact Array.getElem?_eq_getElem (by omega),frozen_of_row _ _ _ _ _ h1⟩
   have hsz3:g<w3.heap.size:=by have:=hGB.out.size;omega
   go_wp2_with (at_make;refine wpList_mk_exact rfl _ _ _ rfl 4 (.bool false) 1 Tryz.underlying205 info_bool rfl b.next.length rfl rfl (by omega) (by unfold maxLen;omega) ?_)
   go_wp2
   go_roundw
   case rel=>exact ⟨k+1,by omega,by go_num,hGB.out.step hlt,(hB.setCell (by simp;omega) _).alloc (by simp;omega) _⟩
   case measure=>simp [intOf];omega
  have hke:k=a.next.length:=by omega
  have HG:=Lib.hid (hke▸hGB.out).done
  have hsz3:g+1+a.next.length≤w3.heap.size:=by have:=hGB.out.size;omega
  clear hke hGB
  have hP3:w3.cell? ⟨w.heap.size+1+1,0,none⟩=some (.int .i64 s)∧w3.cell? ⟨w.heap.size+1+1,1,none⟩=some (.int .i64 t):=
   ⟨(hB.cell (p:=⟨w.heap.size+1+1,0,none⟩) (show w.heap.size+1+1<w.heap.size+3 by omega)).trans hP2.1,(hB.cell (p:=⟨w.heap.size+1+1,1,none⟩) (show w.heap.size+1+1<w.heap.size+3 by omega)).trans hP2.2⟩
  go_wp2
  refine wp_region_L (fun w'=>w'.cell? ⟨w.heap.size+1+1,0,none⟩=some (.int .i64 s)∧w'.cell? ⟨w.heap.size+1+1,1,none⟩=some (.int .i64 t)∧w'.cell? ⟨g,s,none⟩=some (.slice (some ⟨g+1+s,0,none⟩) b.next.length b.next.length)) [0,1,2,3,4,5,6] (by kernel_rfl) ?_
  have hSS:w3.drew.cell? ⟨w.heap.size+1+1,0,none⟩=some (.int .i64 s)∧w3.drew.cell? ⟨w.heap.size+1+1,1,none⟩=some (.int .i64 t)∧w3.drew.cell? ⟨g,s,none⟩=some (.slice (some ⟨g+1+s,0,none⟩) b.next.length b.next.length):=
   ⟨by simpa using hP3.1,by simpa using hP3.2,by simpa using HG.out.outer s hs⟩
  have HGd:=Lib.hid HG.out.drew
  have hBd:=hB.drew
  have hszd:g+1+a.next.length≤w3.drew.heap.size:=hsz3
  clear hB HG hP3 hsz3
  generalize w3.drew=w4 at*
  refine skL_on [0,1,2,3,4,5,6] ?_
  repeat (refine skL_take (v:= ?_) rfl ?_ ?_;rotate_left;(focus (intro w' hSw;(try dsimp only at hSw);go_simp;try with_reducible rfl));try simp only [Act.put,List.setIfInBounds_toArray,List.set_cons_zero,List.set_cons_succ])
  refine skL_off ?_
  have hgc:=HGd.out.row s hs t ht
  have hgf:=HGd.out.free s hs t
  refine wpAnyL_late (i:=7) (by kernel_rfl) (by kernel_rfl) rfl rfl (fun K hK=> ?_)
  go_simp
  refine hK _ _ ?_
  clear hK K
  refine wpAnyL_late (i:=8) (by kernel_rfl) (by kernel_rfl) rfl rfl (fun K hK=> ?_)
  go_simp
  refine hK _ _ ?_
  clear hK K
  refine wpAnyL_done (by kernel_rfl) ?_ _
  have hG5:Grid (w4.setCell ⟨g+1+s,t,none⟩ (.bool true)) g a.next.length b.next.length (fun i j=>known [⟨(s:Int),(t:Int),[]⟩] i j):=by
   refine (HGd.out.set hs ht).congr fun i j _ _=> ?_
   rw [known_one]
   by_cases e:i=s∧j=t
   ·rw [if_pos e];obtain ⟨rfl,rfl⟩:=e;simp
   rw [if_neg e];symm;simp;omega
  have hB5:=hBd.setCell (p:=⟨g+1+s,t,none⟩) (show w.heap.size+3≤g+1+s by omega) (.bool true)
  have hsz5:g+1+a.next.length≤(w4.setCell ⟨g+1+s,t,none⟩ (.bool true)).heap.size:=by simpa [World.setCell] using hszd
  have hP5:(w4.setCell ⟨g+1+s,t,none⟩ (.bool true)).cell? ⟨w.heap.size+1+1,0,none⟩=some (.int .i64 s)∧(w4.setCell ⟨g+1+s,t,none⟩ (.bool true)).cell? ⟨w.heap.size+1+1,1,none⟩=some (.int .i64 t):=
   ⟨(World.cell?_setCell_other _ _ _ _ (fun e=>by simp at e<;>omega)).trans hSS.1,(World.cell?_setCell_other _ _ _ _ (fun e=>by simp at e<;>omega)).trans hSS.2.1⟩
  have HG5:=Lib.hid hG5
  clear hSS hgc hgf HGd hBd hszd hG5
  generalize w4.setCell ⟨g+1+s,t,none⟩ (.bool true)=w5 at*
  have hq0:Qu (g+1+a.next.length) (g+1+a.next.length) (w5.alloc (.cells #[.int .i64 s,.int .i64 t,.slice none 0 0] 214)) 214 (.slice (some ⟨w5.heap.size,0,none⟩) 1 1) [⟨s,t,[]⟩]:=Qu.one (by unfold i64;omega) (by unfold i64;omega) hsz5
  have hb0:=hB5.alloc (show w.heap.size+3≤w5.heap.size by omega) (.cells #[.int .i64 s,.int .i64 t,.slice none 0 0] 214)
  have HGa:=Lib.hid (HG5.out.below ((Below.refl _ _).alloc hsz5 (.cells #[.int .i64 s,.int .i64 t,.slice none 0 0] 214)) (Nat.le_refl _))
  have hszA:g+1+a.next.length≤(w5.alloc (.cells #[.int .i64 s,.int .i64 t,.slice none 0 0] 214)).heap.size:=by simp;omega
  clear HG5 hB5
  go_wp2
  go_loopw [10,11] (fun vl vi wr=>∃(i:Nat) (l:List Pl) (aq:Option Addr) (cq:Nat),i≤l.length∧vi= .int .i64 i∧vl= .slice aq l.length cq∧Hid (srch a b s t i=(l,none))∧
   Qu (g+1+a.next.length) (g+1+a.next.length) wr 214 (.slice aq l.length cq) l∧Hid (Grid wr g a.next.length b.next.length (fun i j=>known l i j))∧Below (w.heap.size+3) w2 wr∧g+1+a.next.length≤wr.heap.size) (fun _ vi _=>a.next.length*b.next.length+1-(intOf vi).toNat)
  case atStart=>exact ⟨0,[⟨s,t,[]⟩],_,_,by omega,rfl,rfl,rfl,hq0,HGa,hb0,hszA⟩
  case round=>
   clear hq0 HGa hb0 hszA hsz5 hP5
   obtain ⟨i,l,aq,cq,hil,rfl,rfl,hS,hQ,hGr,hB,hsz⟩:=hrel
   obtain ⟨w6,rfl⟩:∃w6:World,w6=wr:=⟨_,rfl⟩
   have hG:Hid (GoodP a b l):=HN.out l i hS.out
   have hgl:l.length≤a.next.length*b.next.length:=hG.out.le
   by_cases hlt:i<l.length
   ·obtain ⟨p,hp⟩:∃p,l[i]? =some p:=⟨_,List.getElem?_eq_getElem hlt⟩
    have HP:=Lib.hid hp
    have hpm:Hid (p∈l):=List.mem_of_getElem? hp
    obtain ⟨r1,r2,r3,r4⟩:=hG.out.range p hpm.out
    have hwl:p.word.length≤16384:=by have:=hG.out.word p hpm.out;omega
    clear hp
    obtain ⟨gq,ad,cw,rfl,hq0,hq1, -, -, -,hgqB,hgqs⟩:=hQ.at HP.out
    obtain ⟨ps,pt,pw⟩:=p
    simp only at r1 r2 r3 r4 hwl hq0 hq1
    obtain ⟨ps,rfl⟩:=Int.eq_ofNat_of_zero_le r1
    obtain ⟨pt,rfl⟩:=Int.eq_ofNat_of_zero_le r3
    have q2:ps<a.next.length:=by omega
    have q4:pt<b.next.length:=by omega
    have q2o:ps<a.out.length:=by rw [OA.out.lo];exact q2
    have q4o:pt<b.out.length:=by rw [OB.out.lo];exact q4
    clear r1 r2 r3 r4
    have cA:=hA2.below hB (by omega)
    obtain ⟨cA0,cA1,cA2,cA3⟩:=cA
    have hwz:w.heap.size+1<w6.heap.size:=by omega
    have hwz0:w.heap.size<w6.heap.size:=by omega
    go_wp2
    have hQa:=hQ.alloc (.cells #[.int .i64 ps,.int .i64 pt] 160)
    have hBa:=hB.alloc (show w.heap.size+3≤w6.heap.size by omega) (.cells #[.int .i64 ps,.int .i64 pt] 160)
    have hGa:=Lib.hid (hGr.out.below ((Below.refl _ _).alloc hsz (.cells #[.int .i64 ps,.int .i64 pt] 160)) (Nat.le_refl _))
    have hp0:(w6.alloc (.cells #[.int .i64 ps,.int .i64 pt] 160)).cell? ⟨w6.heap.size,0,none⟩=some (.int .i64 ps):=by simp
    have hp1:(w6.alloc (.cells #[.int .i64 ps,.int .i64 pt] 160)).cell? ⟨w6.heap.size,1,none⟩=some (.int .i64 pt):=by simp
    have hps:w6.heap.size<(w6.alloc (.cells #[.int .i64 ps,.int .i64 pt] 160)).heap.size:=by simp
    have hpo:Hid (∀k,(Value.slice (some ⟨gq,0,none⟩) l.length cq).ownBlock=some k→k≠w6.heap.size):=fun k hk=>by have:=(hQ.lt k hk).2;omega
    clear hQ hB hGr hq0 hq1
    go_loopw [10,56] (fun vl vx wr=>∃(x:Nat) (l2:List Pl) (aq:Option Addr) (cq:Nat),x≤a.inputs.toNat∧vx= .int .i64 x∧vl= .slice aq l2.length cq∧Hid (scan a b ⟨ps,pt,pw⟩ l x=(l2,none))∧
     Qu (g+1+a.next.length) (g+1+a.next.length) wr 214 (.slice aq l2.length cq) l2∧Hid (Grid wr g a.next.length b.next.length (fun i j=>known l2 i j))∧Below (w.heap.size+3) w2 wr∧
     wr.cell? ⟨w6.heap.size,0,none⟩=some (.int .i64 ps)∧wr.cell? ⟨w6.heap.size,1,none⟩=some (.int .i64 pt)∧w6.heap.size<wr.heap.size∧Hid (∀k,(Value.slice aq l2.length cq).ownBlock=some k→k≠w6.heap.size)) (fun _ vx _=>a.inputs.toNat-(intOf vx).toNat)
    case atStart=>exact ⟨0,l,_,cq,by omega,rfl,rfl,rfl,hQa,hGa,hBa,hp0,hp1,hps,hpo⟩
    case round=>
     clear hQa hGa hBa hp0 hp1 hps hpo cA0 cA1 cA2 cA3
     obtain ⟨x,l2,aq2,cq2,hx,rfl,rfl,hS2,hQ,hGr,hB,hp0,hp1,hps,hpo⟩:=hrel
     obtain ⟨w7,rfl⟩:∃w7:World,w7=wr:=⟨_,rfl⟩
     have hp2:Hid (l2[i]? =some ⟨ps,pt,pw⟩):=by
      obtain ⟨r,hr⟩:=scan_cases a b ⟨ps,pt,pw⟩ l x
      rw [hS2.out] at hr
      simp only at hr
      unfold Hid
      rw [hr,List.getElem?_append_left hlt]
      exact HP.out
     have hG2:Hid (GoodP a b l2):=by
      have:=hG.out.scan OA.out OB.out HI.out hpm.out x hx
      rw [hS2.out] at this
      exact this
     have hgl2:l2.length≤a.next.length*b.next.length:=hG2.out.le
     have hil2:i<l2.length:=by
      by_cases e:i<l2.length
      ·exact e
      have:=hp2.out;rw [List.getElem?_eq_none (by omega)] at this;simp at this
     by_cases hlx:x<a.inputs.toNat
     ·have hlx2:x<b.inputs.toNat:=by rw [←HI.out];exact hlx
      have hlx3:(x:Int)<a.inputs:=by omega
      obtain ⟨cA0,cA1,cA2,cA3⟩:=hA2.below hB (by omega)
      obtain ⟨cB0,cB1,cB2,cB3⟩:=hB2.below hB (by omega)
      obtain ⟨b1,o1,c1,l1,b3,o3,c3,l3,n,y,e1,e2,e3,e4,e5,e6,e7,e8,e9,e10,e11,e12,e13⟩:=(HA.out.below (hbl2.trans (hB.mono (by omega)))).atS OA.out q2 hlx
      obtain ⟨b1',o1',c1',l1',b3',o3',c3',l3',n',y',d1,d2,d3,d4,d5,d6,d7,d8,d9,d10,d11,d12,d13⟩:=(HB.out.below (hbl2.trans (hB.mono (by omega)))).atS OB.out q4 hlx2
      by_cases hy:y=y'
      ·have hyb:(y !=y')=false:=by simp [hy]
       have HY:=Lib.hid hy
       clear hy
       go_wp2
       refine wp_quiet_fast (by kernel_rfl) (by kernel_rfl) ?_
       repeat (first|go_big_quiet_step (fail)|quiet_step (fail))
       refine wpQuiet_nil ?_
       intro _ hw'
       obtain ⟨nq,hw''⟩:=hw'
       subst hw''
       have hQ8:Qu (g+1+a.next.length) (g+1+a.next.length) (w7.drewN nq) 214 (.slice aq2 l2.length cq2) l2:=hQ.drewN nq
       have hB8:=bl_drewN hB nq
       have hG8:=Lib.hid (hGr.out.drewN nq)
       have hSS:(w7.drewN nq).cell? ⟨w.heap.size,2,none⟩=some (.slice (some ⟨nb,no,none⟩) a.next.length acn)∧(w7.drewN nq).cell? ⟨w6.heap.size,0,none⟩=some (.int .i64 ps)∧(w7.drewN nq).cell? ⟨nb,no+ps,none⟩=some (.slice (some ⟨b1,o1,none⟩) l1 c1)∧(w7.drewN nq).cell? ⟨b1,o1+x,none⟩=some (.int .i64 n)∧
           (w7.drewN nq).cell? ⟨w.heap.size+1,2,none⟩=some (.slice (some ⟨nb',no',none⟩) b.next.length bcn)∧(w7.drewN nq).cell? ⟨w6.heap.size,1,none⟩=some (.int .i64 pt)∧(w7.drewN nq).cell? ⟨nb',no'+pt,none⟩=some (.slice (some ⟨b1',o1',none⟩) l1' c1')∧(w7.drewN nq).cell? ⟨b1',o1'+x,none⟩=some (.int .i64 n'):=
        ⟨by simpa using cA2,by simpa using hp0,by simpa using e1,by simpa using e3,by simpa using cB2,by simpa using hp1,by simpa using d1,by simpa using d3⟩
       have hz8:w6.heap.size<(w7.drewN nq).heap.size:=hps
       clear hQ hB hGr hp0 hp1 cA0 cA1 cA2 cA3 cB0 cB1 cB2 cB3 e1 e2 e3 e4 d1 d2 d3 d4
       generalize w7.drewN nq=w8 at*
       go_wp2
       refine wp_region_L (fun w' => w'.cell? ⟨w.heap.size, 2, none⟩ = some (.slice (some ⟨nb, no, none⟩) a.next.length acn) ∧ w'.cell? ⟨w6.heap.size, 0, none⟩ = some (.int .i64 ps) ∧ w'.cell? ⟨nb, no + ps, none⟩ = some (.slice (some ⟨b1, o1, none⟩) l1 c1) ∧ w'.cell? ⟨b1, o1 + x, none⟩ = some (.int .i64 n) ∧
           w'.cell? ⟨w.heap.size+1,2,none⟩=some (.slice (some ⟨nb',no',none⟩) b.next.length bcn)∧w'.cell? ⟨w6.heap.size,1,none⟩=some (.int .i64 pt)∧w'.cell? ⟨nb',no'+pt,none⟩=some (.slice (some ⟨b1',o1',none⟩) l1' c1')∧w'.cell? ⟨b1',o1'+x,none⟩=some (.int .i64 n')) [0,1,2,3,4,5,6,7,8,9,10,11,12,13,14,15,16,17,18] (by kernel_rfl) ?_
       have hSd : w8.drew.cell? ⟨w.heap.size, 2, none⟩ = some (.slice (some ⟨nb, no, none⟩) a.next.length acn) ∧ w8.drew.cell? ⟨w6.heap.size, 0, none⟩ = some (.int .i64 ps) ∧ w8.drew.cell? ⟨nb, no + ps, none⟩ = some (.slice (some ⟨b1, o1, none⟩) l1 c1) ∧ w8.drew.cell? ⟨b1, o1 + x, none⟩ = some (.int .i64 n) ∧
           w8.drew.cell? ⟨w.heap.size+1,2,none⟩=some (.slice (some ⟨nb',no',none⟩) b.next.length bcn)∧w8.drew.cell? ⟨w6.heap.size,1,none⟩=some (.int .i64 pt)∧w8.drew.cell? ⟨nb',no'+pt,none⟩=some (.slice (some ⟨b1',o1',none⟩) l1' c1')∧w8.drew.cell? ⟨b1',o1'+x,none⟩=some (.int .i64 n'):=by simpa using hSS
       have hQd:=hQ8.drew
       have hBd:=hB8.drew
       have hGd:=Lib.hid hG8.out.drew
       have hzd:w6.heap.size<w8.drew.heap.size:=hz8
       clear hSS hQ8 hB8 hG8 hz8
       generalize w8.drew=w9 at*
       refine skL_on [0,1,2,3,4,5,6,7,8,9,10,11,12,13,14,15,16,17,18] ?_
       repeat (refine skL_take (v:= ?_) rfl ?_ ?_;rotate_left;(focus (intro w' hSw;(try dsimp only at hSw);go_simp;try with_reducible rfl));try simp only [Act.put,List.setIfInBounds_toArray,List.set_cons_zero,List.set_cons_succ])
       refine skL_off ?_
       refine wpAnyL_one (i:=19) (by kernel_rfl) rfl rfl (fun K hK=> ?_)
       go_simp
       have ha9:∀p:Addr,p.block<w9.heap.size→(w9.alloc (.cells #[.int .i64 0,.int .i64 0] 160)).cell? p=w9.cell? p:=fun p hp=>((Below.refl _ _).alloc (Nat.le_refl _) _).cell hp
       have hlt9:w.heap.size+1<w9.heap.size:=by omega
       have hblk:nb<w9.heap.size∧b1<w9.heap.size∧nb'<w9.heap.size∧b1'<w9.heap.size:=⟨lt_of_cell hSd.2.2.1,lt_of_cell hSd.2.2.2.1,lt_of_cell hSd.2.2.2.2.2.2.1,lt_of_cell hSd.2.2.2.2.2.2.2⟩
       obtain ⟨k1,k2,k3,k4⟩:=hblk
       refine hK _ _ (fun _=>⟨(ha9 _ (show w.heap.size<w9.heap.size by omega)).trans hSd.1,(ha9 _ hzd).trans hSd.2.1,(ha9 _ k1).trans hSd.2.2.1,(ha9 _ k2).trans hSd.2.2.2.1,(ha9 _ (show w.heap.size+1<w9.heap.size by omega)).trans hSd.2.2.2.2.1,(ha9 _ hzd).trans hSd.2.2.2.2.2.1,(ha9 _ k3).trans hSd.2.2.2.2.2.2.1,(ha9 _ k4).trans hSd.2.2.2.2.2.2.2⟩) ?_
       clear hK K ha9 k1 k2 k3 k4
       refine wpAnyL_late (i:=20) (by kernel_rfl) (by kernel_rfl) rfl rfl (fun K hK=> ?_)
       go_simp
       refine hK _ _ ?_
       clear hK K
       refine wpAnyL_done (by kernel_rfl) ?_ _
       have hp0:=hSd.2.1
       have hp1:=hSd.2.2.2.2.2.1
       clear hSd
       have hsd:Hid (a.ot (((ps:Nat):Int)).toNat x=b.ot (((pt:Nat):Int)).toNat x):=by unfold Hid;rw [Int.toNat_natCast,Int.toNat_natCast,e9.out,d9.out];exact HY.out
       have hnx:Hid (a.nx (((ps:Nat):Int)).toNat x=n∧b.nx (((pt:Nat):Int)).toNat x=n'):=by unfold Hid;rw [Int.toNat_natCast,Int.toNat_natCast,e8.out,d8.out];exact ⟨rfl,rfl⟩
       have hQn:=hQd.alloc (.cells #[.int .i64 n,.int .i64 n'] 160)
       have hBn:=hBd.alloc (show w.heap.size+3≤w9.heap.size by omega) (.cells #[.int .i64 n,.int .i64 n'] 160)
       have hGn:=Lib.hid (hGd.out.below ((Below.refl _ _).alloc (show g+1+a.next.length≤w9.heap.size by omega) (.cells #[.int .i64 n,.int .i64 n'] 160)) (Nat.le_refl _))
       have hpa:(w9.alloc (.cells #[.int .i64 n,.int .i64 n'] 160)).cell? ⟨w6.heap.size,0,none⟩=some (.int .i64 ps):=(((Below.refl w9.heap.size w9).alloc (Nat.le_refl _) _).cell (p:=⟨w6.heap.size,0,none⟩) hzd).trans hp0
       have hpb:(w9.alloc (.cells #[.int .i64 n,.int .i64 n'] 160)).cell? ⟨w6.heap.size,1,none⟩=some (.int .i64 pt):=(((Below.refl w9.heap.size w9).alloc (Nat.le_refl _) _).cell (p:=⟨w6.heap.size,1,none⟩) hzd).trans hp1
       have hna:(w9.alloc (.cells #[.int .i64 n,.int .i64 n'] 160)).cell? ⟨w9.heap.size,0,none⟩=some (.int .i64 n):=by simp
       have hnb:(w9.alloc (.cells #[.int .i64 n,.int .i64 n'] 160)).cell? ⟨w9.heap.size,1,none⟩=some (.int .i64 n'):=by simp
       have hzn:w9.heap.size<(w9.alloc (.cells #[.int .i64 n,.int .i64 n'] 160)).heap.size:=by simp
       have hz69:=hzd
       clear hp0 hp1 hQd hBd hGd hzd
       go_wp2
       obtain ⟨wn,hwn⟩:∃wn,wn=w9.alloc (.cells #[.int .i64 n,.int .i64 n'] 160):=⟨_,rfl⟩
       rw [←hwn] at hQn hBn hGn hpa hpb hna hnb hzn ⊢
       clear hwn
       have hgo:=hGn.out.outer n e5
       have hgc:=hGn.out.row n e5 n' d5
       have hgf:=hGn.out.free n e5 n'
       have hpn:w6.heap.size<wn.heap.size:=by omega
       by_cases hnp:n=ps∧n'=pt
       ·obtain ⟨rfl,rfl⟩:=hnp
        have hkt:Hid (known l2 (n:Int) (n':Int)=true):=known_iff.2 ⟨⟨n,n',pw⟩,List.mem_of_getElem? hp2.out,rfl,rfl⟩
        have hS3:Hid (scan a b ⟨n,n',pw⟩ l (x+1)=(l2,none)):=scan_old hS2.out hsd.out (by simp only;rw [hnx.out.1,hnx.out.2];exact hkt.out)
        refine wp_quiet_fast (by kernel_rfl) (by kernel_rfl) ?_
        repeat (first|go_big_quiet_step (fail)|quiet_step (fail))
        refine wpQuiet_nil ?_
        intro _ hw'
        obtain ⟨nq,hw''⟩:=hw'
        subst hw''
        go_wp2
        go_roundw
        case rel=>exact ⟨x+1,l2,_,_,by omega,by go_num,rfl,hS3,hQn.drewN nq,Lib.hid (hGn.out.drewN nq),bl_drewN hBn nq,by simpa using hpa,by simpa using hpb,hpn,hpo⟩
        case measure=>simp [intOf];omega
       have hif : ∀ (A B : Result Next), (if (n : Int) = (ps : Int) then (if (n' : Int) = (pt : Int) then A else B) else B) = B := by
        intro A B
        by_cases h1:(n:Int)=ps
        ·rw [if_pos h1,if_neg (by omega)]
        rw [if_neg h1]
       cases hkn:known l2 (n:Int) (n':Int) with
       |true=>
        rw [hkn] at hgc
        have hS3:Hid (scan a b ⟨ps,pt,pw⟩ l (x+1)=(l2,none)):=scan_old hS2.out hsd.out (by simp only;rw [hnx.out.1,hnx.out.2];exact hkn)
        clear hkn hnp
        refine wp_quiet_fast (by kernel_rfl) (by kernel_rfl) ?_
        repeat (first|go_big_quiet_step (fail)|quiet_step (fail))
        refine wpQuiet_nil ?_
        intro _ hw'
        obtain ⟨nq,hw''⟩:=hw'
        subst hw''
        go_wp2
        go_roundw
        case rel=>exact ⟨x+1,l2,_,_,by omega,by go_num,rfl,hS3,hQn.drewN nq,Lib.hid (hGn.out.drewN nq),bl_drewN hBn nq,by simpa using hpa,by simpa using hpb,hpn,hpo⟩
        case measure=>simp [intOf];omega
       |false=>
        rw [hkn] at hgc
        have HKN:=Lib.hid hkn
        clear hkn hnp
        refine wp_quiet_fast (by kernel_rfl) (by kernel_rfl) ?_
        repeat (first|go_big_quiet_step (fail)|quiet_step (fail))
        refine wpQuiet_nil ?_
        intro _ hw'
        obtain ⟨nq,hw''⟩:=hw'
        subst hw''
        have hQm:Qu (g+1+a.next.length) (g+1+a.next.length) (wn.drewN nq) 214 (.slice aq2 l2.length cq2) l2:=hQn.drewN nq
        have hBm:=bl_drewN hBn nq
        have hGm:=Lib.hid (hGn.out.drewN nq)
        have hpam:(wn.drewN nq).cell? ⟨w6.heap.size,0,none⟩=some (.int .i64 ps):=by simpa using hpa
        have hpbm:(wn.drewN nq).cell? ⟨w6.heap.size,1,none⟩=some (.int .i64 pt):=by simpa using hpb
        have hnam:(wn.drewN nq).cell? ⟨w9.heap.size,0,none⟩=some (.int .i64 n):=by simpa using hna
        have hnbm:(wn.drewN nq).cell? ⟨w9.heap.size,1,none⟩=some (.int .i64 n'):=by simpa using hnb
        have hznm:w9.heap.size<(wn.drewN nq).heap.size:=hzn
        have hgom:(wn.drewN nq).cell? ⟨g,n,none⟩=some (.slice (some ⟨g+1+n,0,none⟩) b.next.length b.next.length):=by simpa using hgo
        clear hQn hBn hGn hpa hpb hna hnb hzn hgo hgc hgf hpn hif
        generalize wn.drewN nq=wm at*
        go_wp2
        refine wp_region_L (fun w'=>w'.cell? ⟨w9.heap.size,0,none⟩=some (.int .i64 n)∧w'.cell? ⟨w9.heap.size,1,none⟩=some (.int .i64 n')∧w'.cell? ⟨g,n,none⟩=some (.slice (some ⟨g+1+n,0,none⟩) b.next.length b.next.length)) [0,1,2,3,4,5,6] (by kernel_rfl) ?_
        have hSS:wm.drew.cell? ⟨w9.heap.size,0,none⟩=some (.int .i64 n)∧wm.drew.cell? ⟨w9.heap.size,1,none⟩=some (.int .i64 n')∧wm.drew.cell? ⟨g,n,none⟩=some (.slice (some ⟨g+1+n,0,none⟩) b.next.length b.next.length):=by simpa using And.intro hnam (And.intro hnbm hgom)
        have hpad:wm.drew.cell? ⟨w6.heap.size,0,none⟩=some (.int .i64 ps):=by simpa using hpam
        have hpbd:wm.drew.cell? ⟨w6.heap.size,1,none⟩=some (.int .i64 pt):=by simpa using hpbm
        have hQd:=hQm.drew
        have hBd:=hBm.drew
        have hGd:=Lib.hid hGm.out.drew
        have hzd:w9.heap.size<wm.drew.heap.size:=hznm
        clear hnam hnbm hgom hpam hpbm hQm hBm hGm hznm
        generalize wm.drew=wd9 at*
        refine skL_on [0,1,2,3,4,5,6] ?_
        repeat (refine skL_take (v:= ?_) rfl ?_ ?_;rotate_left;(focus (intro w' hSw;(try dsimp only at hSw);go_simp;try with_reducible rfl));try simp only [Act.put,List.setIfInBounds_toArray,List.set_cons_zero,List.set_cons_succ])
        refine skL_off ?_
        have hgc:=hGd.out.row n e5 n' d5
        have hgf:=hGd.out.free n e5 n'
        refine wpAnyL_late (i:=7) (by kernel_rfl) (by kernel_rfl) rfl rfl (fun K hK=> ?_)
        go_simp
        refine hK _ _ ?_
        clear hK K
        refine wpAnyL_late (i:=8) (by kernel_rfl) (by kernel_rfl) rfl rfl (fun K hK=> ?_)
        go_simp
        refine hK _ _ ?_
        clear hK K
        refine wpAnyL_done (by kernel_rfl) ?_ _
        have hgN:g+1+n<g+1+a.next.length:=by omega
        have hQs:=Qu.set hQd (p:=⟨g+1+n,n',none⟩) hgN (Nat.le_refl _) (.bool true)
        have hGs:=Lib.hid (hGd.out.set e5 d5)
        have hBs:=hBd.setCell (p:=⟨g+1+n,n',none⟩) (show w.heap.size+3≤g+1+n by omega) (.bool true)
        have hsc:∀q o,g+1+a.next.length≤q→(wd9.setCell ⟨g+1+n,n',none⟩ (.bool true)).cell? ⟨q,o,none⟩=wd9.cell? ⟨q,o,none⟩:=fun q o hq=>World.cell?_setCell_other _ _ _ _ (fun e=>by simp at e<;>omega)
        have hna:=(hsc w9.heap.size 0 (by omega)).trans hSS.1
        have hnb:=(hsc w9.heap.size 1 (by omega)).trans hSS.2.1
        have hpa:=(hsc w6.heap.size 0 (by omega)).trans hpad
        have hpb:=(hsc w6.heap.size 1 (by omega)).trans hpbd
        have hzs:w9.heap.size<(wd9.setCell ⟨g+1+n,n',none⟩ (.bool true)).heap.size:=by simpa [World.setCell] using hzd
        clear hgc hgf hQd hGd hBd hSS hpad hpbd hzd hsc
        generalize wd9.setCell ⟨g+1+n,n',none⟩ (.bool true)=ws at*
        obtain ⟨gp,ad,cw,rfl, -, -,hqs,hqw, -, -,hgpl⟩:=Qu.at hQs hp2.out
        simp only at hqw hqs
        go_wp2
        refine wp_region_T (fun w'=>w'.cell? ⟨w9.heap.size,0,none⟩=some (.int .i64 n)∧w'.cell? ⟨w9.heap.size,1,none⟩=some (.int .i64 n')∧w'.cell? ⟨gp,i*3+2,none⟩=some (.slice ad pw.length cw)) [0,1,2,3,4,5,6,7] (by kernel_rfl) ?_
        have hSS:ws.drew.cell? ⟨w9.heap.size,0,none⟩=some (.int .i64 n)∧ws.drew.cell? ⟨w9.heap.size,1,none⟩=some (.int .i64 n')∧ws.drew.cell? ⟨gp,i*3+2,none⟩=some (.slice ad pw.length cw):=by simpa using And.intro hna (And.intro hnb hqs)
        have hpad:ws.drew.cell? ⟨w6.heap.size,0,none⟩=some (.int .i64 ps):=by simpa using hpa
        have hpbd:ws.drew.cell? ⟨w6.heap.size,1,none⟩=some (.int .i64 pt):=by simpa using hpb
        have hQd:=hQs.drew
        have hBd:=hBs.drew
        have hGd:=Lib.hid hGs.out.drew
        have hqwd:=hqw.drew
        have hzd:w9.heap.size<ws.drew.heap.size:=hzs
        have hgpd:gp<ws.drew.heap.size:=hgpl
        clear hna hnb hqs hpa hpb hQs hBs hGs hqw hzs hgpl
        generalize ws.drew=wt at*
        refine skT_on [0,1,2,3,4,5,6,7] ?_
        repeat (refine skT_take (v:= ?_) rfl ?_ ?_;rotate_left;(focus (intro w' hSw;(try dsimp only at hSw);go_simp;try with_reducible rfl));try simp only [Act.put,List.setIfInBounds_toArray,List.set_cons_zero,List.set_cons_succ])
        refine skT_off ?_
        have keep:∀w',Below wt.heap.size wt w'→w'.cell? ⟨w9.heap.size,0,none⟩=some (.int .i64 n)∧w'.cell? ⟨w9.heap.size,1,none⟩=some (.int .i64 n')∧w'.cell? ⟨gp,i*3+2,none⟩=some (.slice ad pw.length cw):=fun w' hb=>
         ⟨(hb.cell (p:=⟨w9.heap.size,0,none⟩) hzd).trans hSS.1,(hb.cell (p:=⟨w9.heap.size,1,none⟩) hzd).trans hSS.2.1,(hb.cell (p:=⟨gp,i*3+2,none⟩) hgpd).trans hSS.2.2⟩
        have HK0:=Lib.hid keep
        clear keep hSS
        refine wpAnyT_one (i:=8) (by kernel_rfl) rfl rfl (fun K hK=> ?_)
        go_simp
        have hb8:Below wt.heap.size wt (wt.alloc (.cells #[.int .i64 x] 3)):=(Below.refl _ _).alloc (Nat.le_refl _) _
        refine hK _ _ (fun _=>HK0.out _ hb8) ?_
        clear hK K
        refine wpAnyT_one (i:=9) (by kernel_rfl) rfl rfl (fun K hK=> ?_)
        go_simp
        have hb9:=hb8.alloc (by simp) (.cells #[.slice ad pw.length cw,.slice (some ⟨wt.heap.size,0,none⟩) 1 1] 49)
        refine hK _ _ (fun _=>HK0.out _ hb9) ?_
        clear hK K hb8
        have HJ:=Lib.hid (join_two hqwd (x:=(x:Int)) (by unfold i64;omega) (by omega))
        refine wpAnyT_one (i:=10) (by kernel_rfl) rfl rfl (fun K hK=> ?_)
        go_simp
        refine (HJ.out).mono ?_
        rintro e w10 ⟨aw,cw2,wd,rfl,hwd,hSw,hb10⟩
        have hS10:=HK0.out _ hb10
        have hz10:=hb10.size
        refine hK _ _ (fun _=>hS10) ?_
        clear hK K HJ hb9
        refine wpAnyT_one (i:=11) (by kernel_rfl) rfl rfl (fun K hK=> ?_)
        go_simp
        refine hK _ _ (fun _=>hS10) ?_
        clear hK K
        have hb12:Below wt.heap.size wt (w10.alloc (.cells #[.int .i64 n,.int .i64 n',.slice aw wd.length cw2] 214)):=hb10.alloc hz10 _
        have hS12:=HK0.out _ hb12
        refine wpAnyT_one (i:=12) (by kernel_rfl) rfl rfl (fun K hK=> ?_)
        go_simp
        refine hK _ _ (fun _=>hS12) ?_
        clear hK K hS10 hS12
        have hQ12:Qu (g+1+a.next.length) (g+1+a.next.length) (w10.alloc (.cells #[.int .i64 n,.int .i64 n',.slice aw wd.length cw2] 214)) 214 (.slice (some ⟨gp,0,none⟩) l2.length cq2) l2:=Qu.later hQd hb12
        have hGt:g+1+a.next.length≤wt.heap.size:=by omega
        have hz12:wt.heap.size≤(w10.alloc (.cells #[.int .i64 n,.int .i64 n',.slice aw wd.length cw2] 214)).heap.size:=hb12.size
        have hG12:=Lib.hid (hGd.out.below hb12 hGt)
        have hB12:=hBd.trans (hb12.mono (by omega))
        have hpa12:=(hb12.cell (p:=⟨w6.heap.size,0,none⟩) (show w6.heap.size<wt.heap.size by omega)).trans hpad
        have hpb12:=(hb12.cell (p:=⟨w6.heap.size,1,none⟩) (show w6.heap.size<wt.heap.size by omega)).trans hpbd
        have hSw12:Sl (mayQ (g+1+a.next.length) (.slice (some ⟨gp,0,none⟩) l2.length cq2)) (w10.alloc (.cells #[.int .i64 n,.int .i64 n',.slice aw wd.length cw2] 214)) aw cw2 wd:=
         (hSw.anti fun k _ hk=>hk.elim (fun e=>(hQd.lt k e).2) (fun e=>Nat.lt_of_lt_of_le e hGt)).alloc _
        have hn0:(w10.alloc (.cells #[.int .i64 n,.int .i64 n',.slice aw wd.length cw2] 214)).cell? ⟨w10.heap.size,0,none⟩=some (.int .i64 n):=by simp
        have hn1:(w10.alloc (.cells #[.int .i64 n,.int .i64 n',.slice aw wd.length cw2] 214)).cell? ⟨w10.heap.size,1,none⟩=some (.int .i64 n'):=by simp
        have hn2:(w10.alloc (.cells #[.int .i64 n,.int .i64 n',.slice aw wd.length cw2] 214)).cell? ⟨w10.heap.size,2,none⟩=some (.slice aw wd.length cw2):=by simp
        clear hb12 hQd hGd hBd hb10 hSw hpad hpbd hqwd
        refine wpAnyT_late (i:=13) (by kernel_rfl) (by kernel_rfl) rfl rfl (fun K hK=> ?_)
        refine wp_push_pl (N:=g+1+a.next.length) (B:=g+1+a.next.length) (v:= .slice (some ⟨gp,0,none⟩) l2.length cq2) (l:=l2) (q:=⟨n,n',wd⟩) rfl Tryz.underlying215 info_place rfl rfl rfl hQ12 hn0 hn1 hn2 hSw12 (by unfold i64;simp only;omega) (by unfold i64;simp only;omega) (by omega) (by omega) ?_
        intro a13 c13 l13 w13 hl13 hQ13 hbk13 hgr13
        have hg13:=(Below.refl (g+1+a.next.length) (w10.alloc (.cells #[.int .i64 n,.int .i64 n',.slice aw wd.length cw2] 214))).grown hgr13 (by omega) (fun q hq=>(hQ12.lt q hq).1)
        have hbp:Hid (w13.heap[w6.heap.size]? =(w10.alloc (.cells #[.int .i64 n,.int .i64 n',.slice aw wd.length cw2] 214)).heap[w6.heap.size]?):=hgr13.block _ (by omega) (fun e=>hpo.out _ e.symm rfl)
        have hpa13:=(World.cell?_of_block (a:=⟨w6.heap.size,0,none⟩) hbp.out).trans hpa12
        have hpb13:=(World.cell?_of_block (a:=⟨w6.heap.size,1,none⟩) hbp.out).trans hpb12
        have hB13:=hB12.trans (hg13.mono (by omega))
        have hz13:w6.heap.size<w13.heap.size:=by have:=hgr13.size;omega
        have hpo13:Hid (∀k,(Value.slice a13 l13.length c13).ownBlock=some k→k≠w6.heap.size):=fun k hk=>by
         rcases (hbk13.out k hk).1 with e|e
         ·exact hpo.out k e
         omega
        have hG13:Hid (Grid w13 g a.next.length b.next.length (fun i j=>known l13 i j)):=by
         refine (hG12.out.below hg13 (Nat.le_refl _)).congr fun i' j' _ _=> ?_
         rw [hl13.out,known_snoc]
         by_cases e:i'=n∧j'=n'
         ·rw [if_pos e];obtain ⟨rfl,rfl⟩:=e;simp
         rw [if_neg e]
         have:decide (((n:Nat):Int)=(i':Int)∧((n':Nat):Int)=(j':Int))=false:=by simp;omega
         simp only [this,Bool.or_false]
        have hS3:Hid (scan a b ⟨ps,pt,pw⟩ l (x+1)=(l13,none)):=by
         have h1:=scan_new hS2.out hsd.out (by simp only;rw [hnx.out.1,hnx.out.2];exact HKN.out)
         simp only at h1
         rw [hnx.out.1,hnx.out.2,←hwd.out] at h1
         unfold Hid
         rw [hl13.out]
         exact h1
        refine hK _ _ ?_
        clear hK K hgr13 hbk13 hg13 hpa12 hpb12 hQ12 hG12 hB12 hSw12 hn0 hn1 hn2
        refine wpAnyT_late (i:=14) (by kernel_rfl) (by kernel_rfl) rfl rfl (fun K hK=> ?_)
        go_simp
        refine hK _ _ ?_
        clear hK K
        refine wpAnyT_done (by kernel_rfl) ?_ _
        go_wp2
        go_roundw
        case rel=>exact ⟨x+1,l13,a13,c13,by omega,by go_num,rfl,hS3,hQ13,hG13,hB13,hpa13,hpb13,hz13,hpo13⟩
        case measure=>simp [intOf];omega
      have hyb:(y !=y')=true:=by simp [hy]
      have HF:=Lib.hid (first_found hS.out HP.out (scan_diff hS2.out (by simp only [Int.toNat_natCast];rw [e9.out,d9.out];exact hy)) (by omega) (by omega))
      clear hy
      obtain ⟨gq',ad,cw,rfl, -, -,hqs,hqw, -, -, -⟩:=hQ.at hp2.out
      simp only at hqw hqs
      go_wp2
      refine wp_quiet_fast (by kernel_rfl) (by kernel_rfl) ?_
      repeat (first|go_big_quiet_step (fail)|quiet_step (fail))
      refine wpQuiet_nil ?_
      intro _ hw'
      obtain ⟨nq,hw''⟩:=hw'
      subst hw''
      have hqw8:=hqw.drewN nq
      have hBf8:=bl_drewN (hbl2.trans (hB.mono (show w.heap.size≤w.heap.size+3 by omega))) nq
      have hqs8:(w7.drewN nq).cell? ⟨gq',i*3+2,none⟩=some (.slice ad pw.length cw):=by simpa using hqs
      have hz8:w.heap.size≤(w7.drewN nq).heap.size:=hBf8.size
      clear hqw hqs hB hQ hGr hp0 hp1 cA0 cA1 cA2 cA3 cB0 cB1 cB2 cB3 e1 e2 e3 e4 d1 d2 d3 d4 hpo
      generalize w7.drewN nq=w8 at*
      go_wp2_with fail
      refine (join_two hqw8 (by unfold i64;omega) (by omega)).mono ?_
      rintro e w9 ⟨aw,cw2,wd,rfl,hwd,hSw,hb9⟩
      have hBf9:=hBf8.trans (hb9.mono hz8)
      have hSw9:=hSw.anti (M':=fun k=>k<w.heap.size) (fun k _ hk=>by omega)
      go_wp2
      go_ret2
      refine ⟨aw,cw2,wd,true,rfl,?_,hSw9,hBf9⟩
      unfold Hid ansW
      rw [HF.out,hwd.out]
      exact ⟨rfl,rfl⟩
     have hlx3:¬(x:Int)<a.inputs:=by omega
     go_wp2
     go_roundw
     case rel=>exact ⟨i+1,l2,aq2,cq2,by omega,by go_num,rfl,by unfold Hid;rw [srch_step hS.out HP.out,←hS2.out,show a.inputs.toNat=x by omega],hQ,hGr,hB,by omega⟩
     case measure=>simp [intOf];omega
   have HF:=Lib.hid (first_none hS.out (by omega) (by omega))
   have hbf:=hbl2.trans (hB.mono (by omega))
   go_wp2
   go_ret2
   refine ⟨none,0,[],false,rfl,?_,Sl.nil _ _ _ (by unfold maxLen;omega),hbf⟩
   unfold Hid ansW
   rw [HF.out]
   exact ⟨rfl,rfl⟩
end
theorem info_cplace:(Tryz.prog.info? 219).map (fun i=>(i.zero,i.size,i.bytes))=some (some (.agg #[.int .i64 0,.slice none 0 0]),2,32):=by kernel_rfl
theorem pc_at {L:List Pc} {i:Nat} {q:Pc} (h:L[i]? =some q):L.getD i ⟨0,[]⟩=q:=by rw [List.getD_eq_getElem?_getD,h];rfl
section
variable {M:Nat→Prop} {w:World} {an ao:Option Addr} {cn co:Nat} {m:Mach}
theorem places_any (hm:Ma M w an cn ao co m) (ok:Hid m.Ok):
    Calls Tryz.prog 171 #[maV m an cn ao co,.int .i64 m.start] w fun e w'=>∃(a':Option Addr) (c':Nat) (L:List Pc),e= .returned (.slice a' L.length c')∧Hid (L=m.covW)∧Sl (fun k=>k<w.heap.size) w' a' c' L∧Below w.heap.size w w':=by
 have hB0:=(Below.refl w.heap.size w).alloc (Nat.le_refl _) (maO m an cn ao co)
 have hx0:C4 (w.alloc (maO m an cn ao co)) w.heap.size an cn ao co m:=c4_new w
 have n1:=ok.out.n1
 have s0:=ok.out.s0
 have s1:=ok.out.s1
 have hm64:=hm.start
 have HM:=Lib.hid hm
 clear hm
 go_enter Tryz.func171,Tryz.ntmps171
 go_wp2_with (at_make;refine wpList_mk_b (B:=w.heap.size+1) (n:=m.next.length) rfl rfl Tryz.underlying205 info_bool rfl (by omega) (by simp) ?_)
 intro g c b w2 hb hO hb2 hg
 have hB2:=hB0.trans (hb2.mono (by omega))
 have hx2:=hx0.below hb2 (by omega)
 have hz2:w.heap.size+1≤w2.heap.size:=by have:=hb2.size;simp at this;omega
 have hbl:b.length=m.next.length:=by rw [hb.out,List.length_replicate]
 obtain ⟨st,hst⟩:=Int.eq_ofNat_of_zero_le s0
 have hsn:st<m.next.length:=by omega
 obtain ⟨g',y0,hgg,hyc,hyf, -⟩:=hO.at_bool (show st<b.length by omega)
 obtain rfl:g=g':=by simpa using hgg
 have hgl:=(hO.lt g rfl).2
 rw [hst]
 have hOs:=hO.set_bool rfl (show w.heap.size+1≤g by omega) true st
 have hMk:Hid (Marks m.next.length ([(⟨(st:Int),[]⟩:Pc)].map Pc.s) (b.set st true)):=Marks.init hb.out hsn
 have hBs:=hB2.setCell (p:=⟨g,st,none⟩) (show w.heap.size≤g by omega) (.bool true)
 have hxs:=hx2.below ((Below.refl (w.heap.size+1) w2).setCell (p:=⟨g,st,none⟩) (show w.heap.size+1≤g by omega) (.bool true)) (by omega)
 have hzs:(w2.setCell ⟨g,st,none⟩ (.bool true)).heap.size=w2.heap.size:=by simp
 have hba:=(Below.refl w2.heap.size (w2.setCell ⟨g,st,none⟩ (.bool true))).alloc (by simp) (.cells #[.int .i64 (st:Int),.slice none 0 0] 219)
 have hO3:=Lib.hid (hOs.alloc (.cells #[.int .i64 (st:Int),.slice none 0 0] 219))
 have hB3:=Lib.hid (hBs.trans (hba.mono (by omega)))
 have hx3:=Lib.hid (hxs.below hba (by omega))
 have hN3:Hid (Ox (g+1) (g+1) ((w2.setCell ⟨g,st,none⟩ (.bool true)).alloc (.cells #[.int .i64 (st:Int),.slice none 0 0] 219)) 219 (.slice (some ⟨w2.heap.size,0,none⟩) 1 1) [(⟨(st:Int),[]⟩:Pc)]):=by
  have:=Ox.one_pc (N:=g+1) (B:=g+1) (w:=w2.setCell ⟨g,st,none⟩ (.bool true)) (T:=219) (s:=(st:Int)) (by unfold i64;omega) (by rw [hzs];omega)
  rw [hzs] at this
  exact this
 have hL0:Hid ([(⟨(st:Int),[]⟩:Pc)]=m.cov 0):=by unfold Hid Mach.cov;rw [hst]
 have hz3:Hid (w.heap.size+1≤((w2.setCell ⟨g,st,none⟩ (.bool true)).alloc (.cells #[.int .i64 (st:Int),.slice none 0 0] 219)).heap.size):=by unfold Hid;simp;omega
 have HST:=Lib.hid hst
 have hbsn:st<b.length:=by omega
 rw [hbl] at hO hO3 ⊢
 have hbl2:Hid (m.next.length=(b.set st true).length):=by unfold Hid;rw [List.length_set];exact hbl.symm
 clear hst hbl hO hb hB0 hx0 hB2 hx2 hb2 hOs hBs hxs hzs hba hgg s0 s1 hm64 hbsn
 have hgz:g<((w2.setCell ⟨g,st,none⟩ (.bool true)).alloc (.cells #[.int .i64 (st:Int),.slice none 0 0] 219)).heap.size:=by simp;omega
 go_wp2
 generalize hgg:(w2.setCell ⟨g,st,none⟩ (.bool true)).alloc (.cells #[.int .i64 (st:Int),.slice none 0 0] 219)=w3 at*
 clear hgg
 go_loopw [6,7] (fun v i wr=>∃(k:Nat) (a':Option Addr) (c':Nat) (L:List Pc) (bs:List Bool),k≤m.next.length∧i= .int .i64 k∧v= .slice a' L.length c'∧Hid (L=m.cov k)∧Hid (Marks m.next.length (L.map Pc.s) bs)∧Hid (m.next.length=bs.length)∧
  Ow (w.heap.size+1) (fun k=>w.heap.size+1≤k) wr 4 (.slice (some ⟨g,0,none⟩) m.next.length c) bs∧Ox (g+1) (g+1) wr 219 (.slice a' L.length c') L∧C4 wr w.heap.size an cn ao co m∧g<wr.heap.size∧Below w.heap.size w wr) (fun _ i _=>m.next.length-(intOf i).toNat)
 case atStart=>exact ⟨0,_,1,[⟨(st:Int),[]⟩],_,by omega,rfl,rfl,hL0,hMk,hbl2,hO3.out,hN3.out,hx3.out,hgz,hB3.out⟩
 case round=>
  clear hL0 hMk hbl2 hO3 hN3 hx3 hgz hB3 hz3
  obtain ⟨k,a',c',L,bs,hk,rfl,rfl,hL,hMk,hbs,hO,hN,hC,hgw,hB⟩:=hrel
  obtain ⟨wo,rfl⟩:∃wo:World,wo=wr:=⟨_,rfl⟩
  have hLn:L.length≤m.next.length:=by rw [hL.out,Mach.cov_len];exact Mach.bfs_le ok.out k
  by_cases hlt:k<L.length
  ·obtain ⟨q,hq⟩:∃q,L[k]? =some q:=⟨_,List.getElem?_eq_getElem hlt⟩
   have hqa:=Mach.cov_all ok.out k q (by rw [←hL.out];exact List.mem_of_getElem? hq)
   obtain ⟨qs,qw⟩:=q
   obtain ⟨gq,aq,cq,rfl,hq0,hq1, -, -,hgq,hgq2⟩:=hN.at_pc hq
   obtain ⟨x,rfl⟩:=Int.eq_ofNat_of_zero_le hqa.1
   have hxn:x<m.next.length:=by have:=hqa.2.1;simp only at this;omega
   have hqwl:qw.length≤k:=hqa.2.2.2.1
   have HQL:Hid (qw.length<100000):=by unfold Hid;omega
   have HQ:=Lib.hid hq
   obtain ⟨bn,on,a1,r1,c1,rfl,hn1,hr1,hS1⟩:=HM.out.next.at_row hxn
   have hn1:=(hB.cell (p:=⟨bn,on+x,none⟩) (HM.out.next.lt hxn)).trans hn1
   have HS1:=Lib.hid hS1
   have hr1n:=hS1.le
   have hr1l:Hid ((r1.length:Int)=m.inputs):=by have:=ok.out.rn x hxn;rw [getD_of_some hr1.out] at this;exact this
   have hr64:r1.length≤64:=by have:=hr1l.out;have:=ok.out.i1;omega
   have hq0:wo.cell? ⟨gq,k*2,none⟩=some (.int .i64 ((x:Nat):Int)):=hq0
   have hcov0:Hid (L=covRow L qw r1 0):=rfl
   clear hqa hq hS1 hq1
   go_wp2
   refine wp_quiet_fast (by kernel_rfl) (by kernel_rfl) ?_
   repeat (first|go_big_quiet_step (fail)|quiet_step (fail))
   refine wpQuiet_nil ?_
   intro _ hw'
   obtain ⟨nq,hw''⟩:=hw'
   subst hw''
   go_wp2
   go_loopw [6,36] (fun v i wr=>∃(j:Nat) (a':Option Addr) (c':Nat) (K:List Pc) (bs:List Bool),j≤r1.length∧i= .int .i64 j∧v= .slice a' K.length c'∧Hid (K=covRow L qw r1 j)∧Hid (Marks m.next.length (K.map Pc.s) bs)∧Hid (m.next.length=bs.length)∧
    Ow (w.heap.size+1) (fun k=>w.heap.size+1≤k) wr 4 (.slice (some ⟨g,0,none⟩) m.next.length c) bs∧Ox (g+1) (g+1) wr 219 (.slice a' K.length c') K∧C4 wr w.heap.size (some ⟨bn,on,none⟩) cn ao co m∧g<wr.heap.size∧Below w.heap.size w wr) (fun _ i _=>r1.length-(intOf i).toNat)
   case atStart=>exact ⟨0,_,c',L,bs,by omega,rfl,rfl,hcov0,hMk,hbs,hO.drewN _,Ox.later hN (below_drewN _ _ _),hC.below (below_drewN (w.heap.size+1) _ _) (by omega),by simpa using hgw,bl_drewN hB _⟩
   case round=>
    clear hcov0 hMk hbs hO hN hC hgw hq0 hn1 hB
    obtain ⟨j,a2,c2,K,bs2,hj,rfl,rfl,hK,hMk,hbs,hO,hN,hC,hgw,hB⟩:=hrel
    obtain ⟨w4,rfl⟩:∃w4:World,w4=wr:=⟨_,rfl⟩
    by_cases hlj:j<r1.length
    ·obtain ⟨b3,o3,t0,rfl,htc,ht0, -⟩:=(HS1.out.below hB).at_int hlj
     have htr:=Mach.row_range ok.out hxn (x:=t0) (by rw [getD_of_some hr1.out];exact List.mem_of_getElem? ht0.out)
     obtain ⟨t,rfl⟩:=Int.eq_ofNat_of_zero_le htr.1
     have htn:t<m.next.length:=by omega
     have htb2:t<bs2.length:=by have:=hbs.out;omega
     obtain ⟨g',y,hg',hyc,hyf,hy⟩:=hO.at_bool' hbs.out htb2
     obtain rfl:g=g':=by simpa using hg'
     have hyd:Hid (y=decide ((t:Int)∈K.map Pc.s)):=hMk.out.at htn hy.out
     have hKk:K[k]? =some ⟨(x:Int),qw⟩:=by
      obtain ⟨sf,hsf⟩:=covRow_prefix L qw r1 j
      rw [hK.out,hsf,List.getElem?_append_left hlt];exact HQ.out
     have hKl:K.length≤m.next.length:=by
      have h1:=Mach.bfs_props ok.out k
      have h2:K.map Pc.s=visit (m.bfs k) (r1.take j):=by rw [hK.out,covRow_states _ _ _ _ hj,hL.out,Mach.cov_states]
      have h3:=nodup_le m.next.length (K.map Pc.s) (by rw [h2];exact visit_nodup _ _ h1.1) (fun z hz=>by
       rw [h2,visit_mem] at hz
       rcases hz with hz|hz
       ·exact h1.2.1 z hz
       exact Mach.row_range ok.out hxn (by rw [getD_of_some hr1.out];exact List.mem_of_mem_take hz))
      simpa using h3
     obtain ⟨gK,aK,cK,rfl, -,hK1,hKs, -,hgK,hgK2⟩:=hN.at_pc hKk
     have hkK:k<K.length:=by
      by_cases e:k<K.length
      ·exact e
      rw [List.getElem?_eq_none (by omega)] at hKk;simp at hKk
     clear hg' hKk htr
     cases y with
     |true=>
      have hin:Hid (K=covRow L qw r1 (j+1)):=by
       have h1:(t:Int)∈K.map Pc.s:=by simpa using hyd.out.symm
       unfold Hid
       rw [covRow_hit ht0.out (by rw [←hK.out];exact h1),hK.out]
      go_wp2
      go_roundw
      case rel=>exact ⟨j+1,_,c2,K,bs2,by omega,by go_num,rfl,hin,hMk,hbs,hO,hN,hC,hgw,hB⟩
      case measure=>simp [intOf];omega
     |false=>
      have hnin:Hid (covRow L qw r1 (j+1)=K++[⟨(t:Int),qw++[(j:Int)]⟩]):=by
       have h1:¬(t:Int)∈K.map Pc.s:=by simpa using hyd.out.symm
       unfold Hid
       rw [covRow_new ht0.out (by rw [←hK.out];exact h1),←hK.out]
      have hgn:¬gK=g:=by omega
      have hO5:=hO.set_bool hbs.out (show w.heap.size+1≤g by omega) true t
      have hN5:Ox (g+1) (g+1) (w4.setCell ⟨g,t,none⟩ (.bool true)) 219 (.slice (some ⟨gK,0,none⟩) K.length c2) K:=hN.setOther (.inr (show g<g+1 by omega)) (fun k hk=>by have:=(hN.lt k hk).1;show k≠g;omega) _
      have hB5:=hB.setCell (p:=⟨g,t,none⟩) (show w.heap.size≤g by omega) (.bool true)
      have hC5:=hC.below ((Below.refl (w.heap.size+1) w4).setCell (p:=⟨g,t,none⟩) (show w.heap.size+1≤g by omega) (.bool true)) (by omega)
      have hK5:(w4.setCell ⟨g,t,none⟩ (.bool true)).cell? ⟨gK,k*2+1,none⟩=some (.slice aK qw.length cK):=(World.cell?_of_block (w:=w4) (Below.heap_setCell _ _ _ _ (by simpa using hgn))).trans hK1
      have hs5:(w4.setCell ⟨g,t,none⟩ (.bool true)).heap.size=w4.heap.size:=by simp
      have hKs5:=hKs.ext (Ext.setCell w4 (p:=⟨g,t,none⟩) (.inr (show g<g+1 by omega)) (.bool true))
      have HC:=Lib.hid (join_two hKs5 (show i64 (j:Int) by unfold i64;omega) (show qw.length<100000000000 by have:=HQL.out;omega))
      rw [hs5] at HC
      have HS5:=Lib.hid hs5
      have hKlh:Hid (K.length≤m.next.length):=hKl
      clear hO hN hB hC hKs5 hs5 hKs hKl
      go_wp2_with fail
      refine (HC.out).mono ?_
      rintro e6 w6 ⟨a6,c6,x6,rfl,hx6,hs6,hb6⟩
      have hbb:Below (w4.setCell ⟨g,t,none⟩ (.bool true)).heap.size (w4.setCell ⟨g,t,none⟩ (.bool true)) w6:=by rw [HS5.out];exact hb6
      have hz6:w4.heap.size≤w6.heap.size:=by have:=hbb.size;rw [HS5.out] at this;exact this
      have hba:=hbb.alloc hbb.size (.cells #[.int .i64 (t:Int),.slice a6 x6.length c6] 219)
      have hO6:=Lib.hid (hO5.below hba)
      have hN6:=Ox.later hN5 hba
      have hC6:=hC5.below (hba.mono (show w.heap.size+1≤(w4.setCell ⟨g,t,none⟩ (.bool true)).heap.size by rw [HS5.out];omega)) (by omega)
      have hB6:=hB5.trans (hba.mono (show w.heap.size≤(w4.setCell ⟨g,t,none⟩ (.bool true)).heap.size by rw [HS5.out];omega))
      have hy6:Sl (fun k=>(Value.slice (some ⟨gK,0,none⟩) K.length c2).ownBlock=some k∨k<g+1) (w6.alloc (.cells #[.int .i64 (t:Int),.slice a6 x6.length c6] 219)) a6 c6 x6:=
       (hs6.anti fun k _ hk=>by
        rcases hk with e|e
        ·have:gK=k:=by simpa [Value.ownBlock] using e
         omega
        omega).alloc _
      have hn60:(w6.alloc (.cells #[.int .i64 (t:Int),.slice a6 x6.length c6] 219)).cell? ⟨w6.heap.size,0,none⟩=some (.int .i64 t):=by simp
      have hn61:(w6.alloc (.cells #[.int .i64 (t:Int),.slice a6 x6.length c6] 219)).cell? ⟨w6.heap.size,1,none⟩=some (.slice a6 x6.length c6):=by simp
      have hK6:=hnin
      rw [←hx6.out] at hK6
      have hMk6:=hMk.out.push htn
      have hba2:Hid (g+1≤(w6.alloc (.cells #[.int .i64 (t:Int),.slice a6 x6.length c6] 219)).heap.size):=by unfold Hid;have:=(hN6.lt gK rfl);omega
      clear hO5 hN5 hB5 hC5 hK5 HC hs6 hb6 hbb hba hnin hx6 hMk HS5
      go_wp2_with (refine wpList_push_pc (N:=g+1) (B:=g+1) (l:=K) (q:=⟨(t:Int),x6⟩) rfl rfl Tryz.underlying216 info_cplace rfl rfl rfl hN6 hn60 hn61 hy6 (by unfold i64;simp only;omega) (by have:=hKlh.out;omega) (by have:=hba2.out;omega) ?_)
      intro a7 c7 K7 w7 hK7 hN7 hgr7
      have hb7:=(Below.refl (g+1) (w6.alloc (.cells #[.int .i64 (t:Int),.slice a6 x6.length c6] 219))).grown hgr7 hba2.out (fun k hk=>(hN6.lt k hk).1)
      have hO7 := hO6.out.uptob hb7 (fun k hk => by obtain rfl : g = k := by simpa [Value.ownBlock] using hk
                                                    omega)
      have hC7:=hC6.below (hb7.mono (show w.heap.size+1≤g+1 by omega)) (by omega)
      have hB7:=hB6.trans (hb7.mono (show w.heap.size≤g+1 by omega))
      have hgw7:g<w7.heap.size:=by have:=hba2.out;have:=hgr7.size;omega
      have hK8:=Lib.hid (hK6.trans hK7.out.symm)
      have hbs6:Hid (m.next.length=(bs2.set t true).length):=by unfold Hid;rw [List.length_set];exact hbs.out
      have hMk8:Hid (Marks m.next.length (K7.map Pc.s) (bs2.set t true)):=by
       unfold Hid
       rw [hK7.out,List.map_append]
       exact hMk6
      clear hK6 hK7 hO6 hN6 hC6 hB6 hgr7 hb7 hba2 hMk6 hbs
      go_wp2
      go_roundw
      case rel=>exact ⟨j+1,a7,c7,K7,_,by omega,by go_num,rfl,hK8.out.symm,hMk8,hbs6,hO7,hN7,hC7,hgw7,hB7⟩
      case measure=>simp [intOf];omega
    have hall : Hid (K = m.cov (k + 1)) := by
     unfold Hid
     have e1:(m.cov k).getD k ⟨0,[]⟩=⟨(x:Int),qw⟩:=by rw [←hL.out];exact pc_at HQ.out
     simp only [Mach.cov]
     rw [if_pos (by rw [←hL.out];exact hlt),e1]
     simp only [Int.toNat_natCast]
     rw [getD_of_some hr1.out,hK.out,show j=r1.length by omega,hL.out]
    go_wp2
    go_roundw
    case rel=>exact ⟨k+1,a2,c2,K,bs2,by omega,by go_num,rfl,hall,hMk,hbs,hO,hN,hC,hgw,hB⟩
    case measure=>simp [intOf];omega
  have hF:Hid (L=m.covW):=by unfold Hid;rw [Mach.covW_of (i:=k) (by rw [←hL.out];exact hlt) hk,←hL.out]
  have hSl:=(hN.subM (M':=fun k=>k<w.heap.size) fun k _ hm=> .inr (by omega)).toSl fun k hk=>by have:=(hN.lt k hk).1;omega
  clear hO hN hC
  go_wp2
  go_ret
  exact ⟨a',c',L,rfl,hF,hSl,hB⟩
end
def distW (a b:Mach):Option (List Int):=if chk a b=0 then firstW a b a.start b.start else none
def stErr (m:Mach) (s t:Int):Int:=if m.err≠0 then m.err else if s<0∨(m.next.length:Int)≤s∨t<0∨(m.next.length:Int)≤t then 2 else 0
def stW (m:Mach) (s t:Int):Option (List Int):=if stErr m s t=0 then firstW m m s t else none
theorem st_err {m:Mach} {s t:Int} (h:¬m.err=0):stErr m s t=m.err:=by unfold stErr;rw [if_pos h]
theorem st_cases {m:Mach} (h:m.err=0) (s t:Int):(s<0∧stErr m s t=2)∨(¬s<0∧(m.next.length:Int)≤s∧stErr m s t=2)∨(¬s<0∧¬(m.next.length:Int)≤s∧t<0∧stErr m s t=2)∨
    (¬s<0∧¬(m.next.length:Int)≤s∧¬t<0∧(m.next.length:Int)≤t∧stErr m s t=2)∨(¬s<0∧¬(m.next.length:Int)≤s∧¬t<0∧¬(m.next.length:Int)≤t∧stErr m s t=0):=by
 have e:stErr m s t=if s<0∨(m.next.length:Int)≤s∨t<0∨(m.next.length:Int)≤t then 2 else 0:=by unfold stErr;rw [if_neg (by simpa using h)]
 rw [e]
 split<;>omega
theorem ret3_int {x y:Value} {a b:Int} (h:a=b):Ending.returned (.tuple #[x,y,.int .i64 a])= .returned (.tuple #[x,y,.int .i64 b]):=by rw [h]
section
variable {M:Nat→Prop} {w:World} {an ao bn bo:Option Addr} {acn aco bcn bco:Nat} {a b:Mach}
theorem searchI (ha:Ma M w an acn ao aco a) (hb:Ma M w bn bcn bo bco b) (ea:a.err=0) (eb:b.err=0) (hi:a.inputs=b.inputs) (s t:Int) (hs0:0≤s) (hs:s<a.next.length) (ht0:0≤t) (ht:t<b.next.length):
    Calls Tryz.prog 123 #[maV a an acn ao aco,maV b bn bcn bo bco,.agg #[.int .i64 s,.int .i64 t]] w fun e w'=>
     ∃ad c l f,e= .returned (.tuple #[.slice ad l.length c,.bool f])∧Hid (ansW (firstW a b s t) l f)∧Sl (fun k=>k<w.heap.size) w' ad c l∧Below w.heap.size w w':=by
 obtain ⟨s,rfl⟩:=Int.eq_ofNat_of_zero_le hs0
 obtain ⟨t,rfl⟩:=Int.eq_ofNat_of_zero_le ht0
 exact search_any ha hb ea eb hi s t (by omega) (by omega)
theorem dist_any (ha:Ma M w an acn ao aco a) (hb:Ma M w bn bcn bo bco b):
    Calls Tryz.prog 72 #[maV a an acn ao aco,maV b bn bcn bo bco] w fun e w'=>∃ad c l f,e= .returned (.tuple #[.slice ad l.length c,.bool f,.int .i64 (chk a b)])∧Hid (ansW (distW a b) l f)∧Sl (fun k=>k<w.heap.size) w' ad c l∧Below w.heap.size w w':=by
 have HA:=Lib.hid (ha.ext ((Ext.alloc M w (maO a an acn ao aco)).trans (Ext.alloc M _ (maO b bn bcn bo bco))))
 have HB:=Lib.hid (hb.ext ((Ext.alloc M w (maO a an acn ao aco)).trans (Ext.alloc M _ (maO b bn bcn bo bco))))
 have h0:Below w.heap.size w ((w.alloc (maO a an acn ao aco)).alloc (maO b bn bcn bo bco)):=((Below.refl _ _).alloc (Nat.le_refl _) _).alloc (by simp) _
 have hCa:C4 ((w.alloc (maO a an acn ao aco)).alloc (maO b bn bcn bo bco)) w.heap.size an acn ao aco a:=(c4_new w).below (B:=w.heap.size+1) ((Below.refl _ _).alloc (by simp) _) (by omega)
 have hCb:C4 ((w.alloc (maO a an acn ao aco)).alloc (maO b bn bcn bo bco)) (w.heap.size+1) bn bcn bo bco b:=by simpa using c4_new (m:=b) (an:=bn) (cn:=bcn) (ao:=bo) (co:=bco) (w.alloc (maO a an acn ao aco))
 have HC:=Lib.hid (check_any HA.out HB.out)
 clear ha hb
 by_cases h:chk a b=0
 ·have h':(chk a b !=0)=false:=by simp [h]
  have H:=Lib.hid h
  have HZ:=Lib.hid (chk_zero h)
  clear h
  go_enter Tryz.func72,Tryz.ntmps72
  go_wp2_with fail
  refine (HC.out).mono ?_
  rintro e w1 ⟨rfl,hb1⟩
  have hz1:w.heap.size+2≤w1.heap.size:=by have:=hb1.size;simpa using this
  have hB1:Below (w.heap.size+2) ((w.alloc (maO a an acn ao aco)).alloc (maO b bn bcn bo bco)) w1:=hb1.mono (by simp)
  have hCa1:=hCa.below hB1 (by omega)
  have hCb1:=hCb.below hB1 (by omega)
  obtain ⟨j0,j1,j2,j3⟩:=hCa1
  obtain ⟨k0,k1,k2,k3⟩:=hCb1
  have OA:=Lib.hid (a.ok_of_err HZ.out.1)
  have OB:=Lib.hid (b.ok_of_err HZ.out.2.1)
  have HS:=Lib.hid (searchI (HA.out.below (by simpa using hb1)) (HB.out.below (by simpa using hb1)) HZ.out.1 HZ.out.2.1 HZ.out.2.2 a.start b.start OA.out.s0 OA.out.s1 OB.out.s0 OB.out.s1)
  clear hb1 HC
  go_wp2_with fail
  refine (HS.out).mono ?_
  rintro e w2 ⟨ad,c,l,f,rfl,hans,hsl,hb2⟩
  have hBf:=(h0.trans (hB1.mono (by omega))).trans (hb2.mono (by omega))
  have hS2:=hsl.anti (M':=fun k=>k<w.heap.size) (fun k _ hk=>by omega)
  clear HS
  go_wp2
  go_ret3
  refine ⟨ad,c,l,f,ret3_int H.out.symm,?_,hS2,hBf⟩
  unfold Hid distW;rw [if_pos H.out];exact hans.out
 have h':(chk a b !=0)=true:=by simp [h]
 have H:=Lib.hid h
 clear h
 go_enter Tryz.func72,Tryz.ntmps72
 go_wp2_with fail
 refine (HC.out).mono ?_
 rintro e w1 ⟨rfl,hb1⟩
 have hB1:Below (w.heap.size+2) ((w.alloc (maO a an acn ao aco)).alloc (maO b bn bcn bo bco)) w1:=hb1.mono (by simp)
 have hBf:=h0.trans (hB1.mono (by omega))
 clear HC hb1
 go_wp2
 go_ret3
 refine ⟨none,0,[],false,rfl,?_,Sl.nil _ _ _ (by unfold maxLen;omega),hBf⟩
 unfold Hid distW;rw [if_neg H.out];exact ⟨rfl,rfl⟩
theorem eqm_any (ha:Ma M w an acn ao aco a) (hb:Ma M w bn bcn bo bco b):
    Calls Tryz.prog 30 #[maV a an acn ao aco,maV b bn bcn bo bco] w fun e w'=>∃f,e= .returned (.tuple #[.bool f,.int .i64 (chk a b)])∧Hid (f=decide (chk a b=0∧distW a b=none))∧Below w.heap.size w w':=by
 have HD:=Lib.hid (dist_any (ha.ext ((Ext.alloc M w (maO a an acn ao aco)).trans (Ext.alloc M _ (maO b bn bcn bo bco)))) (hb.ext ((Ext.alloc M w (maO a an acn ao aco)).trans (Ext.alloc M _ (maO b bn bcn bo bco)))))
 have h0:Below w.heap.size w ((w.alloc (maO a an acn ao aco)).alloc (maO b bn bcn bo bco)):=((Below.refl _ _).alloc (Nat.le_refl _) _).alloc (by simp) _
 have hzW:w.heap.size≤((w.alloc (maO a an acn ao aco)).alloc (maO b bn bcn bo bco)).heap.size:=by simp;omega
 clear ha hb
 by_cases h:chk a b=0
 ·have h':(chk a b==0)=true:=by simp [h]
  have H:=Lib.hid h
  clear h
  go_enter Tryz.func30,Tryz.ntmps30
  go_wp2_with fail
  refine (HD.out).mono ?_
  rintro e w1 ⟨ad,c,l,f,rfl,hans, -,hb1⟩
  have hBf:=h0.trans (hb1.mono hzW)
  clear HD
  have hans2:Hid (f=(distW a b).isSome):=hans.out.2
  cases f with
  |true=>
   go_wp2
   go_ret2
   refine ⟨_,rfl,?_,hBf⟩
   unfold Hid
   have h2:=hans2.out
   cases hd:distW a b with
   |none=>rw [hd] at h2;simp at h2
   |some v=>simp
  |false=>
   go_wp2
   go_ret2
   refine ⟨_,rfl,?_,hBf⟩
   unfold Hid
   have h2:=hans2.out
   cases hd:distW a b with
   |none=>simp [H.out]
   |some v=>rw [hd] at h2;simp at h2
 have h':(chk a b==0)=false:=by simp [h]
 have H:=Lib.hid h
 clear h
 go_enter Tryz.func30,Tryz.ntmps30
 go_wp2_with fail
 refine (HD.out).mono ?_
 rintro e w1 ⟨ad,c,l,f,rfl,hans, -,hb1⟩
 have hBf:=h0.trans (hb1.mono hzW)
 clear HD
 go_wp2
 go_ret2
 refine ⟨_,rfl,?_,hBf⟩
 unfold Hid
 have:=H.out
 simp [this]
theorem states_any (ha:Ma M w an acn ao aco a) (s t:Int) (hs:i64 s) (ht:i64 t):
    Calls Tryz.prog 128 #[maV a an acn ao aco,.int .i64 s,.int .i64 t] w fun e w'=>∃ad c l f,e= .returned (.tuple #[.slice ad l.length c,.bool f,.int .i64 (stErr a s t)])∧Hid (ansW (stW a s t) l f)∧Sl (fun k=>k<w.heap.size) w' ad c l∧Below w.heap.size w w':=by
 have HA:=Lib.hid (ha.ext (Ext.alloc M w (maO a an acn ao aco)))
 have h0:Below w.heap.size w (w.alloc (maO a an acn ao aco)):=(Below.refl _ _).alloc (Nat.le_refl _) _
 have hCa:C4 (w.alloc (maO a an acn ao aco)) w.heap.size an acn ao aco a:=c4_new w
 have HV:=Lib.hid (valid_any HA.out)
 have HS64:=Lib.hid (And.intro hs ht)
 have hnl:=ha.next.le
 clear ha hs ht
 by_cases h:a.err=0
 ·have h':(a.err !=0)=false:=by simp [h]
  have H:=Lib.hid h
  clear h
  rcases st_cases H.out s t with ⟨h1,h2⟩|⟨h1,h3,h2⟩|⟨h1,h3,h4,h2⟩|⟨h1,h3,h4,h5,h2⟩|⟨h1,h3,h4,h5,h2⟩
  ·have H2:=Lib.hid h2
   clear h2
   go_enter Tryz.func128,Tryz.ntmps128
   go_wp2_with fail
   refine (HV.out).mono ?_
   rintro e w1 ⟨rfl,hb1⟩
   have hB1:Below (w.heap.size+1) (w.alloc (maO a an acn ao aco)) w1:=hb1.mono (by simp)
   have hBf:=h0.trans (hB1.mono (by omega))
   obtain ⟨j0,j1,j2,j3⟩:=hCa.below hB1 (by omega)
   clear HV hb1
   go_wp2
   go_ret3
   refine ⟨none,0,[],false,ret3_int H2.out.symm,?_,Sl.nil _ _ _ (by unfold maxLen;omega),hBf⟩
   unfold Hid stW;rw [if_neg (by rw [H2.out];decide)];exact ⟨rfl,rfl⟩
  ·have H2:=Lib.hid h2
   clear h2
   go_enter Tryz.func128,Tryz.ntmps128
   go_wp2_with fail
   refine (HV.out).mono ?_
   rintro e w1 ⟨rfl,hb1⟩
   have hB1:Below (w.heap.size+1) (w.alloc (maO a an acn ao aco)) w1:=hb1.mono (by simp)
   have hBf:=h0.trans (hB1.mono (by omega))
   obtain ⟨j0,j1,j2,j3⟩:=hCa.below hB1 (by omega)
   clear HV hb1
   go_wp2
   go_ret3
   refine ⟨none,0,[],false,ret3_int H2.out.symm,?_,Sl.nil _ _ _ (by unfold maxLen;omega),hBf⟩
   unfold Hid stW;rw [if_neg (by rw [H2.out];decide)];exact ⟨rfl,rfl⟩
  ·have H2:=Lib.hid h2
   clear h2
   go_enter Tryz.func128,Tryz.ntmps128
   go_wp2_with fail
   refine (HV.out).mono ?_
   rintro e w1 ⟨rfl,hb1⟩
   have hB1:Below (w.heap.size+1) (w.alloc (maO a an acn ao aco)) w1:=hb1.mono (by simp)
   have hBf:=h0.trans (hB1.mono (by omega))
   obtain ⟨j0,j1,j2,j3⟩:=hCa.below hB1 (by omega)
   clear HV hb1
   go_wp2
   go_ret3
   refine ⟨none,0,[],false,ret3_int H2.out.symm,?_,Sl.nil _ _ _ (by unfold maxLen;omega),hBf⟩
   unfold Hid stW;rw [if_neg (by rw [H2.out];decide)];exact ⟨rfl,rfl⟩
  ·have H2:=Lib.hid h2
   clear h2
   go_enter Tryz.func128,Tryz.ntmps128
   go_wp2_with fail
   refine (HV.out).mono ?_
   rintro e w1 ⟨rfl,hb1⟩
   have hB1:Below (w.heap.size+1) (w.alloc (maO a an acn ao aco)) w1:=hb1.mono (by simp)
   have hBf:=h0.trans (hB1.mono (by omega))
   obtain ⟨j0,j1,j2,j3⟩:=hCa.below hB1 (by omega)
   clear HV hb1
   go_wp2
   go_ret3
   refine ⟨none,0,[],false,ret3_int H2.out.symm,?_,Sl.nil _ _ _ (by unfold maxLen;omega),hBf⟩
   unfold Hid stW;rw [if_neg (by rw [H2.out];decide)];exact ⟨rfl,rfl⟩
  have H2:=Lib.hid h2
  clear h2
  go_enter Tryz.func128,Tryz.ntmps128
  go_wp2_with fail
  refine (HV.out).mono ?_
  rintro e w1 ⟨rfl,hb1⟩
  have hz1:w.heap.size+1≤w1.heap.size:=by have:=hb1.size;simpa using this
  have hB1:Below (w.heap.size+1) (w.alloc (maO a an acn ao aco)) w1:=hb1.mono (by simp)
  obtain ⟨j0,j1,j2,j3⟩:=hCa.below hB1 (by omega)
  have HS:=Lib.hid (searchI (HA.out.below (by simpa using hb1)) (HA.out.below (by simpa using hb1)) H.out H.out rfl s t (by omega) (by omega) (by omega) (by omega))
  clear HV hb1
  go_wp2_with fail
  refine (HS.out).mono ?_
  rintro e w2 ⟨ad,c,l,f,rfl,hans,hsl,hb2⟩
  have hBf:=(h0.trans (hB1.mono (by omega))).trans (hb2.mono (by omega))
  have hS2:=hsl.anti (M':=fun k=>k<w.heap.size) (fun k _ hk=>by omega)
  clear HS
  go_wp2
  go_ret3
  refine ⟨ad,c,l,f,ret3_int H2.out.symm,?_,hS2,hBf⟩
  unfold Hid stW;rw [if_pos H2.out];exact hans.out
 have h':(a.err !=0)=true:=by simp [h]
 have H2:=Lib.hid (st_err (s:=s) (t:=t) h)
 have H:=Lib.hid h
 clear h
 go_enter Tryz.func128,Tryz.ntmps128
 go_wp2_with fail
 refine (HV.out).mono ?_
 rintro e w1 ⟨rfl,hb1⟩
 have hB1:Below (w.heap.size+1) (w.alloc (maO a an acn ao aco)) w1:=hb1.mono (by simp)
 have hBf:=h0.trans (hB1.mono (by omega))
 clear HV hb1
 go_wp2
 go_ret3
 refine ⟨none,0,[],false,ret3_int H2.out.symm,?_,Sl.nil _ _ _ (by unfold maxLen;omega),hBf⟩
 unfold Hid stW;rw [if_neg (by rw [H2.out];exact H.out)];exact ⟨rfl,rfl⟩
end
end Go.Proofs.YtjagagpcjpcjjaaGreat
