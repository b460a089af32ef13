/- Part of the proof. -/
import Derived.Test.YtkfdhpbnphojoaaNd36
set_option linter.unusedSimpArgs false
set_option linter.unusedVariables false
set_option maxRecDepth 100000
set_option maxHeartbeats 16000000
open List renaming setIfInBounds_toArray→wAa,set_cons_zero→wAb,set_cons_succ→wAc,length_cons→wAk,length_append→wAl,length_take→wAm,length_drop→wAn,length_nil→wAo
open Nat renaming le_refl→wAg,zero_add→wAi,mul_one→wAj,reduceAdd→wAp
open Go.Region renaming binds→wAd
open Gm.StepsR renaming cons→wAe
open Go.Act renaming put→wAf
open Go.RowKit.Below renaming refl→wAh
namespace Gm
def uniL (la lb:List Int):List Int:=lb.foldl (fun s x=>insI x s) la
theorem zMn (la lb:List Int) (x:Int):uniL la (lb++[x])=insI x (uniL la lb):=by unfold uniL;rw[List.foldl_append];rfl
theorem uniL_mem {la:List Int} : ∀ {lb:List Int} {y:Int},y∈uniL la lb↔y∈la∨y∈lb:=by
 intro lb
 induction lb generalizing la with
 | nil=>intro y;simp[uniL]
 | cons x lb ih =>
  intro y
  show y∈uniL (insI x la) lb↔_
  rw[ih,zGH,List.mem_cons];constructor
  ·rintro ((h | h) | h)
   · exact .inr (.inl h)
   · exact .inl h
   · exact .inr (.inr h)
  ·rintro (h | h | h)
   · exact .inl (.inr h)
   · exact .inl (.inl h)
   · exact .inr h
theorem zOn (la:List Int):∀ lb:List Int,(uniL la lb).length≤la.length+lb.length:=by
 intro lb
 induction lb generalizing la with
 | nil=>simp[uniL]
 | cons x lb ih =>
  have h1:=ih (insI x la);have h2:=zHp x la;have h3:uniL la (x::lb)=uniL (insI x la) lb:=rfl;rw[h3,wAk];omega
end Gm
namespace Go.Proofs.Ytkfdhpbnphojoaa
open Go.RowKit Gm
theorem zKV (
 va vb:Value) (la lb:List Int) (w:World) (B:Nat) (hB:B≤w.heap.size) (ha:Nums w B va la) (hb:Nums w B vb lb) (hlen:la.length+lb.length≤1000000) :
 Calls Try.prog 17 #[va,vb] w fun e w'=>∃ A' c',e=.returned (.slice A' (uniL la lb).length c')∧w'.ownsRow w.heap.size 3 1 (.slice A' (uniL la lb).length c') (uniL la lb).length (intRow (uniL la lb))∧Below w.heap.size w w':=by
 obtain⟨i0,hi0,hz0,hz1,hz2⟩:=info_parts zAH;obtain⟨A,c,rfl,hra,hAn⟩:=zB2 ha;obtain⟨A2,n,c2,rfl,HN,hnc,hnb,hrb⟩:=hb;have HRA:=zh hra;have HRB:=zh hrb;rw[HN.o] at hlen;obtain⟨m,hm⟩:∃ z,z=la.length:=⟨_,rfl⟩;rw[← hm] at HRA hlen hAn ⊢;have HM:=zh hm;unfold big at hnb;clear hra hrb ha hm
 go_enter Try.func17,Try.ntmps17
 have HE0:=zh (zBS (w:=w.alloc (.cells #[] 3)) (base:=w.heap.size) (g:=w.heap.size) (sz:=1) (e:=3) (Blk.at_ rfl) (wAg _));have HB0:=zh (show Below w.heap.size w (w.alloc (.cells #[] 3)) from (wAh _ _).alloc (wAg _) _);go_upto_region 3 with (at_builtin;go_loud (refine zAw _ rfl (.tmp 9) (.tmp 10) 26 rfl w.heap.size 3 i0 _ 1 8 Try.underlying26 hi0 hz0 hz1 hz2 rfl (by omega) (.slice (some ⟨w.heap.size,0,none⟩) 0 0) 0 [] rfl HE0.o B A m c (intRow la) (intCell la) rfl (HRA.o.below HB0.o hB) hAn (by rw[zAh,HM.o,wAj]) (fun i j hi hj=>zAi _ i j (by rw[← HM.o];exact hi) hj) (zAg _) (by simp only[maxLen];omega) (by omega) (by simp) ?_;intro v1 w1 hown1 hg1 _;have HO1:=zh hown1;have HB1:=zh (HB0.o.grown hg1 (by simp) (fun q hq=>by simp[Value.ownBlock] at hq;omega));clear hown1 hg1))
 rw[wAi] at HO1;rw[show ([]:List Value)++intRow la=intRow la from rfl] at HO1;obtain⟨A1,c1,rfl,hc1,_⟩:=zAa HO1.o;clear HE0 HB0;obtain⟨H,hH⟩:∃ H,H=w.heap.size:=⟨_,rfl⟩;rw[← hH] at HO1 HB1 hB ⊢;have hz1':H≤w1.heap.size:=by rw[hH];exact hH▸HB1.o.size
 replace HRB:=zh (HRB.o.below HB1.o hB);have HHW:=zh hH;clear hH HRA
 go_loopw [5,14] (fun lv iv wr=>∃ (k:Nat) (A3:Option Addr) (q c3:Nat) (l:List Int),k≤n∧iv=.int .i64 k∧lv=.slice A3 q c3∧Hid (l=uniL la (lb.take k))∧Hid (l.length=q)∧q≤m+k∧Hid (wr.ownsRow H 3 1 (.slice A3 q c3) q (intRow l))∧Hid (Below H w1 wr)∧H≤wr.heap.size) (fun _ iv _=>n-(intOf iv).toNat)
 case atStart=>exact⟨0,A1,m,c1,la,by omega,rfl,rfl,zh (by simp[uniL]),zh HM.o.symm,by omega,HO1,zh (wAh _ _),hz1'⟩
 case round =>
  clear HO1;obtain⟨k,A3,q,c3,l,hk,rfl,rfl,HL,HQ,hqk,HOWN,HBK,hzr⟩:=hrel;by_cases hkn:k<n
  ·obtain⟨bb,off,x,rfl,hbB,d0,HX⟩:=zAO (HRB.o.below HBK.o hB) hkn;have hkl:k<lb.length:=by rw[HN.o];exact hkn
   have HTK:=zh (show uniL la (lb.take (k+1))=insI x l by
    rw[HL.o,← zMn,List.take_add_one,List.getElem?_eq_getElem hkl,show lb[k]=x by rw[← HX.o];simp[hkl]];rfl)
   (have lbb:bb<wr.heap.size:=by omega);have HP:=zh (zGV x l);(have hqb:q≤1000000:=by omega);clear HX hkl;(go_upto_region 6 with fail);obtain⟨W5,hW5⟩:∃ z,z=wr:=⟨_,rfl⟩;rw[← hW5] at HOWN HBK hzr lbb d0 ⊢;clear hW5;have HRD:=zh (Rd.of_own HOWN.o (HQ.o▸zAi l))
   go_loopw [8] (fun jv wi=>∃ j:Nat,j≤posI x l∧jv=.int .i64 j∧wi=W5) (fun jv _=>posI x l-(intOf jv).toNat)
   case atStart=>exact⟨0,by omega,rfl,rfl⟩
   case round =>
    obtain⟨j,hj,rfl,hwi⟩:=hrel;have HWI:=zh hwi;have HST:=zh (zE1 x l j hj);have HRJ:=zh (show Rd wr wr.heap.size 1 A3 q (intCell l) by rw[hwi];exact HRD.o);clear hwi;by_cases hjp:j<posI x l
    ·have hjx:=HST.o.2 hjp;(have hjq:j<q:=by rw[← HQ.o];exact hjx.1);obtain⟨b2,o2,y,rfl,h2,e2,HY⟩:=zAO HRJ.o hjq;have s1:decide (y<x)=true:=decide_eq_true (by rw[← HY.o];exact hjx.2);clear HY hjx HST;go_wp2;go_roundw
     case rel=>exact⟨j+1,by omega,by go_num,HWI.o⟩
     case measure=>simp[intOf];omega
    ·(have hjp':posI x l=j:=by omega);(have hjq:j≤q:=by have:=HP.o;rw[HQ.o] at this;omega);(have hno:¬ (j<l.length∧l.getD j 0<x):=fun g=>hjp (HST.o.1 g));rw[HQ.o] at hno;obtain⟨wq,hwq⟩:∃ z,z=wr:=⟨_,rfl⟩;have HOW:=zh (show wr.ownsRow H 3 1 (.slice A3 q c3) q (intRow l) by rw[HWI.o];exact HOWN.o);have HBW:=zh (show Below H w1 wr by rw[HWI.o];exact HBK.o);have hzw:H≤wr.heap.size:=(by have:=HBW.o.size;omega);clear HST hwq;have HIN:=zh hno;clear hno hjp;have HJP:=zh hjp';clear hjp' hj;by_cases hlt:j<q
     ·obtain⟨b2,o2,y,hA3,h2,e2,HY⟩:=zAO HRJ.o hlt;have HAA:=zh hA3;have s1:decide (y<x)=false:=decide_eq_false (fun g=>HIN.o ⟨hlt,by rw[HY.o];exact g⟩);(have tj:((j:Int)==(q:Int))=false:=by simp;omega);have tj':decide ((j:Int)=(q:Int))=false:=decide_eq_false (by omega);by_cases hyx:y=x
      ·have HII:=zh (zKM (x:=x) (l:=l) ⟨by rw[HJP.o,HQ.o];exact hlt,by rw[HJP.o,HY.o];exact hyx⟩);rw[HII.o] at HTK;(have s2:(y != x)=false:=by simp[hyx]);have s2':decide (y=x)=true:=decide_eq_true hyx;subst hA3;clear hyx HY HIN HJP HII;go_wp2;go_roundw
       case rel=>exact⟨k+1,_,q,c3,l,by omega,by go_num,rfl,zh HTK.o.symm,HQ,by omega,HOW,HBW,hzw⟩
       case measure=>simp[intOf];omega
      ·have HII:=zh (zI2 (x:=x) (l:=l) (fun h=>hyx (by rw[← HY.o,← HJP.o];exact h.2)));rw[HII.o,HJP.o] at HTK;(have s2:(y != x)=true:=by simp[hyx]);have s2':decide (y=x)=false:=decide_eq_false hyx;subst hA3;clear hyx HY HIN HJP HII;(go_upto_region 9 with fail);obtain⟨WW,hWW⟩:∃ z,z=wr:=⟨_,rfl⟩;rw[← hWW] at HOW HBW hzw ⊢;have HRW:=zh (Rd.of_own HOW.o (HQ.o▸zAi l));clear hWW HRJ;obtain⟨A3',c3',hv3,hqc3,_⟩:=zAa HOW.o;(have hqc3:q≤c3:=by injection hv3 with e1 e2 e3;omega);clear hv3;obtain⟨V1,hV1,hn1⟩:=zGB (A:=(some ⟨b2,o2,none⟩)) (c:=c3) (k:=j) hjq hqc3 (by unfold big;omega);obtain⟨V2,hV2,hn2⟩:=zG0 (A:=(some ⟨b2,o2,none⟩)) (c:=c3) (k:=j) hjq hqc3 (by unfold big;omega);have HNW:=zh (show Nums WW WW.heap.size (.slice (some ⟨b2,o2,none⟩) q c3) l from ⟨_,_,_,rfl,HQ,hqc3,by unfold big;omega,HRW.o⟩);obtain⟨B1,d1,rfl,hr1,hA1⟩:=zB2 (hn1 _ _ _ HNW.o);obtain⟨B2,d2,rfl,hr2,hA2⟩:=zB2 (hn2 _ _ _ HNW.o);have HL1:=zh (show (l.take j).length=j by rw[wAm,HQ.o];omega);have HL2:=zh (show (l.drop j).length=q-j by rw[wAn,HQ.o]);rw[HL1.o] at hV1 hr1 hA1;rw[HL2.o] at hV2 hr2 hA2;have HR1:=zh hr1;have HR2:=zh hr2;have HV1:=zh hV1;have HV2:=zh hV2;clear hr1 hr2 hn1 hn2 HNW HRW hV1 hV2;obtain⟨ll,hll⟩:∃ z,z=l:=⟨_,rfl⟩;rw[← hll] at HL1 HL2 HR1 HR2 HTK;clear hll HQ HL HP
       obtain⟨F,hF⟩:∃ F:(Nat→Bool)→(Nat→Value)→World→Prop,F=fun l v wr =>
        Hid ((l 0=true→l 4=false→∃ g,v 0=.slice (some ⟨g,0,none⟩) 0 0∧WW.heap.size≤g∧Blk wr g 3 #[])) ∧
        Hid ((l 1=true→v 1=(.slice (some ⟨b2,o2,none⟩) q c3))) ∧
        Hid ((l 2=true→v 2=.int .i64 (j:Int))) ∧
        Hid ((l 3=true→v 3=.slice B1 j d1)) ∧
        Hid ((l 4=true→l 7=false→wr.ownsRow WW.heap.size 3 1 (v 4) j (intRow (ll.take j)))) ∧
        Hid ((l 5=true→v 5=.int .i64 x)) ∧
        Hid ((l 6=true→l 7=false→∃ g,v 6=.slice (some ⟨g,0,none⟩) 1 1∧WW.heap.size≤g∧Blk wr g 3 #[.int .i64 x]∧(l 0=true→l 4=false→v 0≠.slice (some ⟨g,0,none⟩) 0 0)∧(l 4=true→(v 4).ownBlock≠some g))) ∧
        Hid ((l 7=true→l 11=false→wr.ownsRow WW.heap.size 3 1 (v 7) (j+1) (intRow (ll.take j++[x])))) ∧
        Hid ((l 8=true→v 8=(.slice (some ⟨b2,o2,none⟩) q c3))) ∧
        Hid ((l 9=true→v 9=.int .i64 (j:Int))) ∧
        Hid ((l 10=true→v 10=.slice B2 (q-j) d2)) ∧
        Hid ((l 11=true→wr.ownsRow WW.heap.size 3 1 (v 11) (q+1) (intRow (ll.take j++[x]++ll.drop j)))) ∧
        Hid ((l 12=true→v 12=v 11)∧(l 12=false→v 12=(.slice (some ⟨b2,o2,none⟩) q c3))) ∧
        Hid (Below WW.heap.size WW wr):=⟨_,rfl⟩
       have HFD:=zh hF;clear hF;refine zDq F (A:=?AR1) ?hA (by kernel_rfl) (by kernel_rfl) (by kernel_rfl) ?h0 ?hend ?hsteps
       case hA=>intro v;simp only[putR,wAf,wAa,wAb,wAc,wAp,wAi];exact rfl
       case h0 =>
        rw[HFD.o];exact⟨zh (nofun),zh (nofun),zh (nofun),zh (nofun),zh (nofun),zh (nofun),zh (nofun),zh (nofun),zh (nofun),zh (nofun),zh (nofun),zh (nofun),zh (⟨nofun,fun _=>rfl⟩),zh ((wAh _ _).drew)⟩
       case hend =>
        intro l v wr hall hF;rw[HFD.o] at hF;obtain⟨H0,H1,H2,H3,H4,H5,H6,H7,H8,H9,H10,H11,H12,H13⟩:=hF;have f0:=H0.o;have f1:=H1.o;have f2:=H2.o;have f3:=H3.o;have f4:=H4.o;have f5:=H5.o;have f6:=H6.o;have f7:=H7.o;have f8:=H8.o;have f9:=H9.o;have f10:=H10.o;have f11:=H11.o;have f12:=H12.o;have f13:=H13.o;clear H0 H1 H2 H3 H4 H5 H6 H7 H8 H9 H10 H11 H12 H13;have h11:=f11 (hall 11 (by simp));have h12:=f12.1 (hall 12 (by simp));obtain⟨A8,c8,e11,_,_⟩:=zAa h11;rw[e11] at h11 h12;have HE:=zh h12;have HO8:=zh h11;have HB8:=zh f13;clear f0 f1 f2 f3 f4 f5 f6 f7 f8 f9 f10 f11 f12 f13 hall h11 h12 e11;go_wp2;go_roundw
        case rel=>exact⟨k+1,A8,q+1,c8,ll.take j++[x]++ll.drop j,by omega,by go_num,HE.o,zh HTK.o.symm,zh (by simp only[wAl,wAk,wAo];rw[HL1.o,HL2.o];omega),by omega,zh (zFC HO8.o hzw),zh (HBW.o.trans (HB8.o.mono hzw)),by have:=HB8.o.size;omega⟩
        case measure=>simp[intOf];omega
       case hsteps =>
        refine wAe (n:=0) ?_ (wAe (n:=1) ?_ (wAe (n:=2) ?_ (wAe (n:=3) ?_ (wAe (n:=4) ?_ (wAe (n:=5) ?_ (wAe (n:=6) ?_ (wAe (n:=7) ?_ (wAe (n:=8) ?_ (wAe (n:=9) ?_ (wAe (n:=10) ?_ (wAe (n:=11) ?_ (wAe (n:=12) ?_ (trivial)))))))))))))
        ·intro l v wr hn hdep hcl hF K hK;rw[HFD.o] at hF;obtain⟨H0,H1,H2,H3,H4,H5,H6,H7,H8,H9,H10,H11,H12,H13⟩:=hF;simp[wAd] at hdep;have HCL:=zh hcl;have HN:=zh hn;clear hcl hn;have HBA:=zh (show Below wr.heap.size wr (wr.alloc (.cells #[] 3)) from (wAh _ _).alloc (wAg _) _);go_simp
         have hk:=hK.out (.slice (some ⟨wr.heap.size,0,none⟩) 0 0) (wr.alloc (.cells #[] 3)) (by
          rw[HFD.o]
          exact⟨zh ((fun _ _=>⟨wr.heap.size,rfl,H13.o.size,Blk.at_ rfl⟩)),H1,H2,H3,zh ((fun h h7=>zAC (H4.o h h7) HBA.o)),H5,zh ((fun h h7=>by obtain⟨g,h1,h2,h3,h4,h5⟩:=H6.o h h7;refine⟨g,h1,h2,h3.below HBA.o h3.lt,fun _ _ he=>?_,h5⟩;have:=h3.lt;have he:Value.slice (some ⟨wr.heap.size,0,none⟩) 0 0=.slice (some ⟨g,0,none⟩) 0 0:=he;injection he with he;injection he with he;injection he with he;omega)),zh ((fun h h11=>zAC (H7.o h h11) HBA.o)),H8,H9,H10,zh ((fun h=>zAC (H11.o h) HBA.o)),H12,zh (H13.o.trans ((HBA.o).mono H13.o.size))⟩)
         simp only[wAf,wAa,wAb,wAc] at hk;exact hk
        ·intro l v wr hn hdep hcl hF K hK;rw[HFD.o] at hF;obtain⟨H0,H1,H2,H3,H4,H5,H6,H7,H8,H9,H10,H11,H12,H13⟩:=hF;simp[wAd] at hdep;have HCL:=zh hcl;have HN:=zh hn;clear hcl hn;have e12:=H12.o.2 (by cases g:l 12 with | false=>rfl | true=>exact absurd (HCL.o 12 _ rfl g ⟨1,.phase⟩ (by simp) rfl) (by rw[HN.o];decide));go_simp
         have hk:=hK.out (.slice (some ⟨b2,o2,none⟩) q c3) wr (by
          rw[HFD.o]
          exact⟨H0,zh ((fun _=>rfl)),H2,H3,H4,H5,H6,H7,H8,H9,H10,H11,H12,H13⟩)
         simp only[wAf,wAa,wAb,wAc] at hk;simp only[e12] at hk;exact hk
        ·intro l v wr hn hdep hcl hF K hK;rw[HFD.o] at hF;obtain⟨H0,H1,H2,H3,H4,H5,H6,H7,H8,H9,H10,H11,H12,H13⟩:=hF;simp[wAd] at hdep;have HCL:=zh hcl;have HN:=zh hn;clear hcl hn;go_simp
         have hk:=hK.out (.int .i64 (j:Int)) wr (by
          rw[HFD.o]
          exact⟨H0,H1,zh ((fun _=>rfl)),H3,H4,H5,H6,H7,H8,H9,H10,H11,H12,H13⟩)
         simp only[wAf,wAa,wAb,wAc] at hk;exact hk
        ·intro l v wr hn hdep hcl hF K hK;rw[HFD.o] at hF;obtain⟨H0,H1,H2,H3,H4,H5,H6,H7,H8,H9,H10,H11,H12,H13⟩:=hF;simp[wAd] at hdep;have HCL:=zh hcl;have HN:=zh hn;clear hcl hn;have e1:=H1.o (by simp[hdep]);have e2:=H2.o (by simp[hdep]);have hV1:=HV1.o;go_simp
         have hk:=hK.out (.slice B1 j d1) wr (by
          rw[HFD.o]
          exact⟨H0,H1,H2,zh ((fun _=>rfl)),H4,H5,H6,H7,H8,H9,H10,H11,H12,H13⟩)
         simp only[wAf,wAa,wAb,wAc] at hk;simp only[e1,e2] at hk;exact hk
        ·intro l v wr hn hdep hcl hF K hK;rw[HFD.o] at hF;obtain⟨H0,H1,H2,H3,H4,H5,H6,H7,H8,H9,H10,H11,H12,H13⟩:=hF;simp[wAd] at hdep;have HCL:=zh hcl;have HN:=zh hn;clear hcl hn;(have d0:l 0=true:=by simp[hdep]);have e3:=H3.o (by simp[hdep]);have h40:=HN.o;obtain⟨g0,e0,hg0,hbk⟩:=H0.o d0 h40;refine zAl rfl (.tmp 44) (.tmp 47) 26 rfl WW.heap.size 3 i0 _ 1 8 Try.underlying26 hi0 hz0 hz1 hz2 rfl (by omega) (v 0) 0 [] rfl (by rw[e0];exact zBS hbk hg0) _ B1 j d1 (intRow (ll.take j)) (intCell (ll.take j)) (by exact e3) (HR1.o.below H13.o (wAg _)) hA1 (by rw[zAh,HL1.o,wAj]) (fun i j' hi hj=>zAi _ i j' (by rw[HL1.o];exact hi) hj) (zAg _) (by simp only[maxLen];omega) (by omega) H13.o.size ?_;intro v9 w9 hown9 hg9 hat9;refine hK.out v9 w9 ?_;rw[HFD.o];exact⟨zh ((fun _ h=>absurd h (by simp[updR]))),H1,H2,H3,zh ((fun _ _=>by have h:=hown9;rw[wAi] at h;exact h)),H5,zh ((fun h h7=>by obtain⟨g,h1,h2,h3,h4,h5⟩:=H6.o h h7;have hne:g0≠g:=(fun e=>h4 d0 h40 (by rw[e0,e]));refine⟨g,h1,h2,h3.grown hg9 (by rw[e0];simp only[Value.ownBlock];intro e;injection e with e;exact hne e.symm),fun _ h=>absurd h (by simp[updR]),fun _ e=>?_⟩;have e:v9.ownBlock=some g:=e;rcases hat9 with z | z;(rw[z,e0] at e;simp only[Value.ownBlock] at e;injection e with e;exact hne e);(rw[z] at e;injection e with e;have:=h3.lt;omega))),zh ((fun h=>absurd (HCL.o 7 _ rfl h ⟨4,.data⟩ (by simp) rfl) (by rw[HN.o];decide))),H8,H9,H10,zh ((fun h=>absurd (HCL.o 7 _ rfl (HCL.o 11 _ rfl h ⟨7,.data⟩ (by simp) rfl) ⟨4,.data⟩ (by simp) rfl) (by rw[HN.o];decide))),H12,zh ((H13.o.grown hg9 H13.o.size (fun z hz=>by rw[e0] at hz;simp only[Value.ownBlock] at hz;injection hz with hz;omega)))⟩
        ·intro l v wr hn hdep hcl hF K hK;rw[HFD.o] at hF;obtain⟨H0,H1,H2,H3,H4,H5,H6,H7,H8,H9,H10,H11,H12,H13⟩:=hF;simp[wAd] at hdep;have HCL:=zh hcl;have HN:=zh hn;clear hcl hn;go_simp
         have hk:=hK.out (.int .i64 x) wr (by
          rw[HFD.o]
          exact⟨H0,H1,H2,H3,H4,zh ((fun _=>rfl)),H6,H7,H8,H9,H10,H11,H12,H13⟩)
         simp only[wAf,wAa,wAb,wAc] at hk;exact hk
        ·intro l v wr hn hdep hcl hF K hK;rw[HFD.o] at hF;obtain⟨H0,H1,H2,H3,H4,H5,H6,H7,H8,H9,H10,H11,H12,H13⟩:=hF;simp[wAd] at hdep;have HCL:=zh hcl;have HN:=zh hn;clear hcl hn;have e5:=H5.o (by simp[hdep]);have HBA:=zh (show Below wr.heap.size wr (wr.alloc (.cells #[.int .i64 x] 3)) from (wAh _ _).alloc (wAg _) _);go_simp
         have hk:=hK.out (.slice (some ⟨wr.heap.size,0,none⟩) 1 1) (wr.alloc (.cells #[.int .i64 x] 3)) (by
          rw[HFD.o]
          exact⟨zh ((fun h h4=>by obtain⟨g,h1,h2,h3⟩:=H0.o h h4;exact⟨g,h1,h2,h3.below HBA.o h3.lt⟩)),H1,H2,H3,zh ((fun h h7=>zAC (H4.o h h7) HBA.o)),H5,zh ((fun _ _=>⟨wr.heap.size,rfl,H13.o.size,Blk.at_ rfl,fun h h4 he=>by obtain⟨g,h1,_,h3⟩:=H0.o h h4;have:=h3.lt;rw[show updR v 6 _ 0=v 0 from rfl,h1] at he;injection he with he;injection he with he;injection he with he;omega,fun h e=>by have h7:l 7=false:=(by cases g:l 7 with | false=>rfl | true=>exact absurd (HCL.o 7 _ rfl g ⟨6,.data⟩ (by simp) rfl) (by rw[HN.o];decide));have:=((H4.o h h7).lt _ e).2;omega⟩)),zh ((fun h h11=>zAC (H7.o h h11) HBA.o)),H8,H9,H10,zh ((fun h=>zAC (H11.o h) HBA.o)),H12,zh (H13.o.trans ((HBA.o).mono H13.o.size))⟩)
         simp only[wAf,wAa,wAb,wAc] at hk;simp only[e5] at hk;exact hk
        ·intro l v wr hn hdep hcl hF K hK;rw[HFD.o] at hF;obtain⟨H0,H1,H2,H3,H4,H5,H6,H7,H8,H9,H10,H11,H12,H13⟩:=hF;simp[wAd] at hdep;have HCL:=zh hcl;have HN:=zh hn;clear hcl hn;(have d4:l 4=true:=by simp[hdep]);have h7:=HN.o;obtain⟨g,e6,hg,hb6,_,_⟩:=H6.o (by simp[hdep]) h7;refine zAl rfl (.tmp 48) (.tmp 50) 26 rfl WW.heap.size 3 i0 _ 1 8 Try.underlying26 hi0 hz0 hz1 hz2 rfl (by omega) (v 4) j (intRow (ll.take j)) rfl (H4.o d4 h7) _ (some ⟨g,0,none⟩) 1 1 (intRow [x]) (intCell [x]) (by exact e6) (zBu (t:=3) hb6) (by simp) (by simp[intRow]) (zAi [x]) (zAg _) (by simp only[maxLen];omega) (by omega) H13.o.size ?_;intro v9 w9 hown9 hg9 hat9;refine hK.out v9 w9 ?_;rw[HFD.o];exact⟨zh ((fun h h4=>absurd h4 (by rw[show updR l 7 true 4=l 4 from rfl,d4];decide))),H1,H2,H3,zh ((fun _ h=>absurd h (by simp[updR]))),H5,zh ((fun _ h=>absurd h (by simp[updR]))),zh ((fun _ _=>by have h:=hown9;rw[← zAd] at h;exact h)),H8,H9,H10,zh ((fun h=>absurd (HCL.o 11 _ rfl h ⟨7,.data⟩ (by simp) rfl) (by rw[HN.o];decide))),H12,zh ((H13.o.grown hg9 H13.o.size (fun z hz=>((H4.o d4 h7).lt z hz).1)))⟩
        ·intro l v wr hn hdep hcl hF K hK;rw[HFD.o] at hF;obtain⟨H0,H1,H2,H3,H4,H5,H6,H7,H8,H9,H10,H11,H12,H13⟩:=hF;simp[wAd] at hdep;have HCL:=zh hcl;have HN:=zh hn;clear hcl hn;have e12:=H12.o.2 (by cases g:l 12 with | false=>rfl | true=>exact absurd (HCL.o 12 _ rfl g ⟨8,.phase⟩ (by simp) rfl) (by rw[HN.o];decide));go_simp
         have hk:=hK.out (.slice (some ⟨b2,o2,none⟩) q c3) wr (by
          rw[HFD.o]
          exact⟨H0,H1,H2,H3,H4,H5,H6,H7,zh ((fun _=>rfl)),H9,H10,H11,H12,H13⟩)
         simp only[wAf,wAa,wAb,wAc] at hk;simp only[e12] at hk;exact hk
        ·intro l v wr hn hdep hcl hF K hK;rw[HFD.o] at hF;obtain⟨H0,H1,H2,H3,H4,H5,H6,H7,H8,H9,H10,H11,H12,H13⟩:=hF;simp[wAd] at hdep;have HCL:=zh hcl;have HN:=zh hn;clear hcl hn;go_simp
         have hk:=hK.out (.int .i64 (j:Int)) wr (by
          rw[HFD.o]
          exact⟨H0,H1,H2,H3,H4,H5,H6,H7,H8,zh ((fun _=>rfl)),H10,H11,H12,H13⟩)
         simp only[wAf,wAa,wAb,wAc] at hk;exact hk
        ·intro l v wr hn hdep hcl hF K hK;rw[HFD.o] at hF;obtain⟨H0,H1,H2,H3,H4,H5,H6,H7,H8,H9,H10,H11,H12,H13⟩:=hF;simp[wAd] at hdep;have HCL:=zh hcl;have HN:=zh hn;clear hcl hn;have e8:=H8.o (by simp[hdep]);have e9:=H9.o (by simp[hdep]);have hV2:=HV2.o;go_simp
         have hk:=hK.out (.slice B2 (q-j) d2) wr (by
          rw[HFD.o]
          exact⟨H0,H1,H2,H3,H4,H5,H6,H7,H8,H9,zh ((fun _=>rfl)),H11,H12,H13⟩)
         simp only[wAf,wAa,wAb,wAc] at hk;simp only[e8,e9] at hk;exact hk
        ·intro l v wr hn hdep hcl hF K hK;rw[HFD.o] at hF;obtain⟨H0,H1,H2,H3,H4,H5,H6,H7,H8,H9,H10,H11,H12,H13⟩:=hF;simp[wAd] at hdep;have HCL:=zh hcl;have HN:=zh hn;clear hcl hn;(have d7:l 7=true:=by simp[hdep]);have d4:l 4=true:=HCL.o 7 _ rfl d7 ⟨4,.data⟩ (by simp) rfl;have h11:=HN.o;have e10:=H10.o (by simp[hdep]);refine zAl rfl (.tmp 51) (.tmp 54) 26 rfl WW.heap.size 3 i0 _ 1 8 Try.underlying26 hi0 hz0 hz1 hz2 rfl (by omega) (v 7) (j+1) (intRow (ll.take j++[x])) rfl (H7.o d7 h11) _ B2 (q-j) d2 (intRow (ll.drop j)) (intCell (ll.drop j)) (by exact e10) (HR2.o.below H13.o (wAg _)) hA2 (by rw[zAh,HL2.o,wAj]) (fun i j' hi hj=>zAi _ i j' (by rw[HL2.o];exact hi) hj) (zAg _) (by simp only[maxLen];omega) (by omega) H13.o.size ?_;intro v9 w9 hown9 hg9 hat9;refine hK.out v9 w9 ?_;rw[HFD.o];exact⟨zh ((fun h h4=>absurd h4 (by rw[show updR l 11 true 4=l 4 from rfl,d4];decide))),H1,H2,H3,zh ((fun _ h=>absurd h (by rw[show updR l 11 true 7=l 7 from rfl,d7];decide))),H5,zh ((fun _ h=>absurd h (by rw[show updR l 11 true 7=l 7 from rfl,d7];decide))),zh ((fun _ h=>absurd h (by simp[updR]))),H8,H9,H10,zh ((fun _=>by have h:=hown9;rw[← zAd,show j+1+(q-j)=q+1 by omega] at h;exact h)),zh (⟨fun h=>absurd (HCL.o 12 _ rfl h ⟨11,.data⟩ (by simp) rfl) (by rw[HN.o];decide),H12.o.2⟩),zh ((H13.o.grown hg9 H13.o.size (fun z hz=>((H7.o d7 h11).lt z hz).1)))⟩
        ·intro l v wr hn hdep hcl hF K hK;rw[HFD.o] at hF;obtain⟨H0,H1,H2,H3,H4,H5,H6,H7,H8,H9,H10,H11,H12,H13⟩:=hF;simp[wAd] at hdep;have HCL:=zh hcl;have HN:=zh hn;clear hcl hn;go_simp
         have hk:=hK.out (v 11) wr (by
          rw[HFD.o]
          exact⟨H0,H1,H2,H3,H4,H5,H6,H7,H8,H9,H10,H11,zh (⟨fun _=>rfl,fun h=>absurd h (by simp[updR])⟩),H13⟩)
         simp only[wAf,wAa,wAb,wAc] at hk;exact hk
     ·(have hjq':j=q:=by omega);have HII:=zh (zI2 (x:=x) (l:=l) (fun h=>hlt (by have:=h.1;rw[HJP.o,HQ.o] at this;exact this)));rw[HII.o,HJP.o] at HTK;clear HIN HJP HII;(have tj:((j:Int)==(q:Int))=true:=by simp;omega);have tj':decide ((j:Int)=(q:Int))=true:=decide_eq_true (by omega);clear hjq';have tl:decide ((j:Int)<(q:Int))=false:=decide_eq_false (by omega);have tl':decide (j<q)=false:=decide_eq_false hlt;clear hlt;(go_upto_region 9 with fail);obtain⟨WW,hWW⟩:∃ z,z=wr:=⟨_,rfl⟩;rw[← hWW] at HOW HBW hzw ⊢;have HRW:=zh (Rd.of_own HOW.o (HQ.o▸zAi l));clear hWW HRJ;obtain⟨A3',c3',hv3,hqc3,_⟩:=zAa HOW.o;(have hqc3:q≤c3:=by injection hv3 with e1 e2 e3;omega);clear hv3;obtain⟨V1,hV1,hn1⟩:=zGB (A:=A3) (c:=c3) (k:=j) hjq hqc3 (by unfold big;omega);obtain⟨V2,hV2,hn2⟩:=zG0 (A:=A3) (c:=c3) (k:=j) hjq hqc3 (by unfold big;omega);have HNW:=zh (show Nums WW WW.heap.size (.slice A3 q c3) l from ⟨_,_,_,rfl,HQ,hqc3,by unfold big;omega,HRW.o⟩);obtain⟨B1,d1,rfl,hr1,hA1⟩:=zB2 (hn1 _ _ _ HNW.o);obtain⟨B2,d2,rfl,hr2,hA2⟩:=zB2 (hn2 _ _ _ HNW.o);have HL1:=zh (show (l.take j).length=j by rw[wAm,HQ.o];omega);have HL2:=zh (show (l.drop j).length=q-j by rw[wAn,HQ.o]);rw[HL1.o] at hV1 hr1 hA1;rw[HL2.o] at hV2 hr2 hA2;have HR1:=zh hr1;have HR2:=zh hr2;have HV1:=zh hV1;have HV2:=zh hV2;clear hr1 hr2 hn1 hn2 HNW HRW hV1 hV2;obtain⟨ll,hll⟩:∃ z,z=l:=⟨_,rfl⟩;rw[← hll] at HL1 HL2 HR1 HR2 HTK;clear hll HQ HL HP
      obtain⟨F,hF⟩:∃ F:(Nat→Bool)→(Nat→Value)→World→Prop,F=fun l v wr =>
       Hid ((l 0=true→l 4=false→∃ g,v 0=.slice (some ⟨g,0,none⟩) 0 0∧WW.heap.size≤g∧Blk wr g 3 #[])) ∧
       Hid ((l 1=true→v 1=(.slice A3 q c3))) ∧
       Hid ((l 2=true→v 2=.int .i64 (j:Int))) ∧
       Hid ((l 3=true→v 3=.slice B1 j d1)) ∧
       Hid ((l 4=true→l 7=false→wr.ownsRow WW.heap.size 3 1 (v 4) j (intRow (ll.take j)))) ∧
       Hid ((l 5=true→v 5=.int .i64 x)) ∧
       Hid ((l 6=true→l 7=false→∃ g,v 6=.slice (some ⟨g,0,none⟩) 1 1∧WW.heap.size≤g∧Blk wr g 3 #[.int .i64 x]∧(l 0=true→l 4=false→v 0≠.slice (some ⟨g,0,none⟩) 0 0)∧(l 4=true→(v 4).ownBlock≠some g))) ∧
       Hid ((l 7=true→l 11=false→wr.ownsRow WW.heap.size 3 1 (v 7) (j+1) (intRow (ll.take j++[x])))) ∧
       Hid ((l 8=true→v 8=(.slice A3 q c3))) ∧
       Hid ((l 9=true→v 9=.int .i64 (j:Int))) ∧
       Hid ((l 10=true→v 10=.slice B2 (q-j) d2)) ∧
       Hid ((l 11=true→wr.ownsRow WW.heap.size 3 1 (v 11) (q+1) (intRow (ll.take j++[x]++ll.drop j)))) ∧
       Hid ((l 12=true→v 12=v 11)∧(l 12=false→v 12=(.slice A3 q c3))) ∧
       Hid (Below WW.heap.size WW wr):=⟨_,rfl⟩
      have HFD:=zh hF;clear hF;refine zDq F (A:=?AR2) ?hA (by kernel_rfl) (by kernel_rfl) (by kernel_rfl) ?h0 ?hend ?hsteps
      case hA=>intro v;simp only[putR,wAf,wAa,wAb,wAc,wAp,wAi];exact rfl
      case h0 =>
       rw[HFD.o];exact⟨zh (nofun),zh (nofun),zh (nofun),zh (nofun),zh (nofun),zh (nofun),zh (nofun),zh (nofun),zh (nofun),zh (nofun),zh (nofun),zh (nofun),zh (⟨nofun,fun _=>rfl⟩),zh ((wAh _ _).drew)⟩
      case hend =>
       intro l v wr hall hF;rw[HFD.o] at hF;obtain⟨H0,H1,H2,H3,H4,H5,H6,H7,H8,H9,H10,H11,H12,H13⟩:=hF;have f0:=H0.o;have f1:=H1.o;have f2:=H2.o;have f3:=H3.o;have f4:=H4.o;have f5:=H5.o;have f6:=H6.o;have f7:=H7.o;have f8:=H8.o;have f9:=H9.o;have f10:=H10.o;have f11:=H11.o;have f12:=H12.o;have f13:=H13.o;clear H0 H1 H2 H3 H4 H5 H6 H7 H8 H9 H10 H11 H12 H13;have h11:=f11 (hall 11 (by simp));have h12:=f12.1 (hall 12 (by simp));obtain⟨A8,c8,e11,_,_⟩:=zAa h11;rw[e11] at h11 h12;have HE:=zh h12;have HO8:=zh h11;have HB8:=zh f13;clear f0 f1 f2 f3 f4 f5 f6 f7 f8 f9 f10 f11 f12 f13 hall h11 h12 e11;go_wp2;go_roundw
       case rel=>exact⟨k+1,A8,q+1,c8,ll.take j++[x]++ll.drop j,by omega,by go_num,HE.o,zh HTK.o.symm,zh (by simp only[wAl,wAk,wAo];rw[HL1.o,HL2.o];omega),by omega,zh (zFC HO8.o hzw),zh (HBW.o.trans (HB8.o.mono hzw)),by have:=HB8.o.size;omega⟩
       case measure=>simp[intOf];omega
      case hsteps =>
       refine wAe (n:=0) ?_ (wAe (n:=1) ?_ (wAe (n:=2) ?_ (wAe (n:=3) ?_ (wAe (n:=4) ?_ (wAe (n:=5) ?_ (wAe (n:=6) ?_ (wAe (n:=7) ?_ (wAe (n:=8) ?_ (wAe (n:=9) ?_ (wAe (n:=10) ?_ (wAe (n:=11) ?_ (wAe (n:=12) ?_ (trivial)))))))))))))
       ·intro l v wr hn hdep hcl hF K hK;rw[HFD.o] at hF;obtain⟨H0,H1,H2,H3,H4,H5,H6,H7,H8,H9,H10,H11,H12,H13⟩:=hF;simp[wAd] at hdep;have HCL:=zh hcl;have HN:=zh hn;clear hcl hn;have HBA:=zh (show Below wr.heap.size wr (wr.alloc (.cells #[] 3)) from (wAh _ _).alloc (wAg _) _);go_simp
        have hk:=hK.out (.slice (some ⟨wr.heap.size,0,none⟩) 0 0) (wr.alloc (.cells #[] 3)) (by
         rw[HFD.o]
         exact⟨zh ((fun _ _=>⟨wr.heap.size,rfl,H13.o.size,Blk.at_ rfl⟩)),H1,H2,H3,zh ((fun h h7=>zAC (H4.o h h7) HBA.o)),H5,zh ((fun h h7=>by obtain⟨g,h1,h2,h3,h4,h5⟩:=H6.o h h7;refine⟨g,h1,h2,h3.below HBA.o h3.lt,fun _ _ he=>?_,h5⟩;have:=h3.lt;have he:Value.slice (some ⟨wr.heap.size,0,none⟩) 0 0=.slice (some ⟨g,0,none⟩) 0 0:=he;injection he with he;injection he with he;injection he with he;omega)),zh ((fun h h11=>zAC (H7.o h h11) HBA.o)),H8,H9,H10,zh ((fun h=>zAC (H11.o h) HBA.o)),H12,zh (H13.o.trans ((HBA.o).mono H13.o.size))⟩)
        simp only[wAf,wAa,wAb,wAc] at hk;exact hk
       ·intro l v wr hn hdep hcl hF K hK;rw[HFD.o] at hF;obtain⟨H0,H1,H2,H3,H4,H5,H6,H7,H8,H9,H10,H11,H12,H13⟩:=hF;simp[wAd] at hdep;have HCL:=zh hcl;have HN:=zh hn;clear hcl hn;have e12:=H12.o.2 (by cases g:l 12 with | false=>rfl | true=>exact absurd (HCL.o 12 _ rfl g ⟨1,.phase⟩ (by simp) rfl) (by rw[HN.o];decide));go_simp
        have hk:=hK.out (.slice A3 q c3) wr (by
         rw[HFD.o]
         exact⟨H0,zh ((fun _=>rfl)),H2,H3,H4,H5,H6,H7,H8,H9,H10,H11,H12,H13⟩)
        simp only[wAf,wAa,wAb,wAc] at hk;simp only[e12] at hk;exact hk
       ·intro l v wr hn hdep hcl hF K hK;rw[HFD.o] at hF;obtain⟨H0,H1,H2,H3,H4,H5,H6,H7,H8,H9,H10,H11,H12,H13⟩:=hF;simp[wAd] at hdep;have HCL:=zh hcl;have HN:=zh hn;clear hcl hn;go_simp
        have hk:=hK.out (.int .i64 (j:Int)) wr (by
         rw[HFD.o]
         exact⟨H0,H1,zh ((fun _=>rfl)),H3,H4,H5,H6,H7,H8,H9,H10,H11,H12,H13⟩)
        simp only[wAf,wAa,wAb,wAc] at hk;exact hk
       ·intro l v wr hn hdep hcl hF K hK;rw[HFD.o] at hF;obtain⟨H0,H1,H2,H3,H4,H5,H6,H7,H8,H9,H10,H11,H12,H13⟩:=hF;simp[wAd] at hdep;have HCL:=zh hcl;have HN:=zh hn;clear hcl hn;have e1:=H1.o (by simp[hdep]);have e2:=H2.o (by simp[hdep]);have hV1:=HV1.o;go_simp
        have hk:=hK.out (.slice B1 j d1) wr (by
         rw[HFD.o]
         exact⟨H0,H1,H2,zh ((fun _=>rfl)),H4,H5,H6,H7,H8,H9,H10,H11,H12,H13⟩)
        simp only[wAf,wAa,wAb,wAc] at hk;simp only[e1,e2] at hk;exact hk
       ·intro l v wr hn hdep hcl hF K hK;rw[HFD.o] at hF;obtain⟨H0,H1,H2,H3,H4,H5,H6,H7,H8,H9,H10,H11,H12,H13⟩:=hF;simp[wAd] at hdep;have HCL:=zh hcl;have HN:=zh hn;clear hcl hn;(have d0:l 0=true:=by simp[hdep]);have e3:=H3.o (by simp[hdep]);have h40:=HN.o;obtain⟨g0,e0,hg0,hbk⟩:=H0.o d0 h40;refine zAl rfl (.tmp 44) (.tmp 47) 26 rfl WW.heap.size 3 i0 _ 1 8 Try.underlying26 hi0 hz0 hz1 hz2 rfl (by omega) (v 0) 0 [] rfl (by rw[e0];exact zBS hbk hg0) _ B1 j d1 (intRow (ll.take j)) (intCell (ll.take j)) (by exact e3) (HR1.o.below H13.o (wAg _)) hA1 (by rw[zAh,HL1.o,wAj]) (fun i j' hi hj=>zAi _ i j' (by rw[HL1.o];exact hi) hj) (zAg _) (by simp only[maxLen];omega) (by omega) H13.o.size ?_;intro v9 w9 hown9 hg9 hat9;refine hK.out v9 w9 ?_;rw[HFD.o];exact⟨zh ((fun _ h=>absurd h (by simp[updR]))),H1,H2,H3,zh ((fun _ _=>by have h:=hown9;rw[wAi] at h;exact h)),H5,zh ((fun h h7=>by obtain⟨g,h1,h2,h3,h4,h5⟩:=H6.o h h7;have hne:g0≠g:=(fun e=>h4 d0 h40 (by rw[e0,e]));refine⟨g,h1,h2,h3.grown hg9 (by rw[e0];simp only[Value.ownBlock];intro e;injection e with e;exact hne e.symm),fun _ h=>absurd h (by simp[updR]),fun _ e=>?_⟩;have e:v9.ownBlock=some g:=e;rcases hat9 with z | z;(rw[z,e0] at e;simp only[Value.ownBlock] at e;injection e with e;exact hne e);(rw[z] at e;injection e with e;have:=h3.lt;omega))),zh ((fun h=>absurd (HCL.o 7 _ rfl h ⟨4,.data⟩ (by simp) rfl) (by rw[HN.o];decide))),H8,H9,H10,zh ((fun h=>absurd (HCL.o 7 _ rfl (HCL.o 11 _ rfl h ⟨7,.data⟩ (by simp) rfl) ⟨4,.data⟩ (by simp) rfl) (by rw[HN.o];decide))),H12,zh ((H13.o.grown hg9 H13.o.size (fun z hz=>by rw[e0] at hz;simp only[Value.ownBlock] at hz;injection hz with hz;omega)))⟩
       ·intro l v wr hn hdep hcl hF K hK;rw[HFD.o] at hF;obtain⟨H0,H1,H2,H3,H4,H5,H6,H7,H8,H9,H10,H11,H12,H13⟩:=hF;simp[wAd] at hdep;have HCL:=zh hcl;have HN:=zh hn;clear hcl hn;go_simp
        have hk:=hK.out (.int .i64 x) wr (by
         rw[HFD.o]
         exact⟨H0,H1,H2,H3,H4,zh ((fun _=>rfl)),H6,H7,H8,H9,H10,H11,H12,H13⟩)
        simp only[wAf,wAa,wAb,wAc] at hk;exact hk
       ·intro l v wr hn hdep hcl hF K hK;rw[HFD.o] at hF;obtain⟨H0,H1,H2,H3,H4,H5,H6,H7,H8,H9,H10,H11,H12,H13⟩:=hF;simp[wAd] at hdep;have HCL:=zh hcl;have HN:=zh hn;clear hcl hn;have e5:=H5.o (by simp[hdep]);have HBA:=zh (show Below wr.heap.size wr (wr.alloc (.cells #[.int .i64 x] 3)) from (wAh _ _).alloc (wAg _) _);go_simp
        have hk:=hK.out (.slice (some ⟨wr.heap.size,0,none⟩) 1 1) (wr.alloc (.cells #[.int .i64 x] 3)) (by
         rw[HFD.o]
         exact⟨zh ((fun h h4=>by obtain⟨g,h1,h2,h3⟩:=H0.o h h4;exact⟨g,h1,h2,h3.below HBA.o h3.lt⟩)),H1,H2,H3,zh ((fun h h7=>zAC (H4.o h h7) HBA.o)),H5,zh ((fun _ _=>⟨wr.heap.size,rfl,H13.o.size,Blk.at_ rfl,fun h h4 he=>by obtain⟨g,h1,_,h3⟩:=H0.o h h4;have:=h3.lt;rw[show updR v 6 _ 0=v 0 from rfl,h1] at he;injection he with he;injection he with he;injection he with he;omega,fun h e=>by have h7:l 7=false:=(by cases g:l 7 with | false=>rfl | true=>exact absurd (HCL.o 7 _ rfl g ⟨6,.data⟩ (by simp) rfl) (by rw[HN.o];decide));have:=((H4.o h h7).lt _ e).2;omega⟩)),zh ((fun h h11=>zAC (H7.o h h11) HBA.o)),H8,H9,H10,zh ((fun h=>zAC (H11.o h) HBA.o)),H12,zh (H13.o.trans ((HBA.o).mono H13.o.size))⟩)
        simp only[wAf,wAa,wAb,wAc] at hk;simp only[e5] at hk;exact hk
       ·intro l v wr hn hdep hcl hF K hK;rw[HFD.o] at hF;obtain⟨H0,H1,H2,H3,H4,H5,H6,H7,H8,H9,H10,H11,H12,H13⟩:=hF;simp[wAd] at hdep;have HCL:=zh hcl;have HN:=zh hn;clear hcl hn;(have d4:l 4=true:=by simp[hdep]);have h7:=HN.o;obtain⟨g,e6,hg,hb6,_,_⟩:=H6.o (by simp[hdep]) h7;refine zAl rfl (.tmp 48) (.tmp 50) 26 rfl WW.heap.size 3 i0 _ 1 8 Try.underlying26 hi0 hz0 hz1 hz2 rfl (by omega) (v 4) j (intRow (ll.take j)) rfl (H4.o d4 h7) _ (some ⟨g,0,none⟩) 1 1 (intRow [x]) (intCell [x]) (by exact e6) (zBu (t:=3) hb6) (by simp) (by simp[intRow]) (zAi [x]) (zAg _) (by simp only[maxLen];omega) (by omega) H13.o.size ?_;intro v9 w9 hown9 hg9 hat9;refine hK.out v9 w9 ?_;rw[HFD.o];exact⟨zh ((fun h h4=>absurd h4 (by rw[show updR l 7 true 4=l 4 from rfl,d4];decide))),H1,H2,H3,zh ((fun _ h=>absurd h (by simp[updR]))),H5,zh ((fun _ h=>absurd h (by simp[updR]))),zh ((fun _ _=>by have h:=hown9;rw[← zAd] at h;exact h)),H8,H9,H10,zh ((fun h=>absurd (HCL.o 11 _ rfl h ⟨7,.data⟩ (by simp) rfl) (by rw[HN.o];decide))),H12,zh ((H13.o.grown hg9 H13.o.size (fun z hz=>((H4.o d4 h7).lt z hz).1)))⟩
       ·intro l v wr hn hdep hcl hF K hK;rw[HFD.o] at hF;obtain⟨H0,H1,H2,H3,H4,H5,H6,H7,H8,H9,H10,H11,H12,H13⟩:=hF;simp[wAd] at hdep;have HCL:=zh hcl;have HN:=zh hn;clear hcl hn;have e12:=H12.o.2 (by cases g:l 12 with | false=>rfl | true=>exact absurd (HCL.o 12 _ rfl g ⟨8,.phase⟩ (by simp) rfl) (by rw[HN.o];decide));go_simp
        have hk:=hK.out (.slice A3 q c3) wr (by
         rw[HFD.o]
         exact⟨H0,H1,H2,H3,H4,H5,H6,H7,zh ((fun _=>rfl)),H9,H10,H11,H12,H13⟩)
        simp only[wAf,wAa,wAb,wAc] at hk;simp only[e12] at hk;exact hk
       ·intro l v wr hn hdep hcl hF K hK;rw[HFD.o] at hF;obtain⟨H0,H1,H2,H3,H4,H5,H6,H7,H8,H9,H10,H11,H12,H13⟩:=hF;simp[wAd] at hdep;have HCL:=zh hcl;have HN:=zh hn;clear hcl hn;go_simp
        have hk:=hK.out (.int .i64 (j:Int)) wr (by
         rw[HFD.o]
         exact⟨H0,H1,H2,H3,H4,H5,H6,H7,H8,zh ((fun _=>rfl)),H10,H11,H12,H13⟩)
        simp only[wAf,wAa,wAb,wAc] at hk;exact hk
       ·intro l v wr hn hdep hcl hF K hK;rw[HFD.o] at hF;obtain⟨H0,H1,H2,H3,H4,H5,H6,H7,H8,H9,H10,H11,H12,H13⟩:=hF;simp[wAd] at hdep;have HCL:=zh hcl;have HN:=zh hn;clear hcl hn;have e8:=H8.o (by simp[hdep]);have e9:=H9.o (by simp[hdep]);have hV2:=HV2.o;go_simp
        have hk:=hK.out (.slice B2 (q-j) d2) wr (by
         rw[HFD.o]
         exact⟨H0,H1,H2,H3,H4,H5,H6,H7,H8,H9,zh ((fun _=>rfl)),H11,H12,H13⟩)
        simp only[wAf,wAa,wAb,wAc] at hk;simp only[e8,e9] at hk;exact hk
       ·intro l v wr hn hdep hcl hF K hK;rw[HFD.o] at hF;obtain⟨H0,H1,H2,H3,H4,H5,H6,H7,H8,H9,H10,H11,H12,H13⟩:=hF;simp[wAd] at hdep;have HCL:=zh hcl;have HN:=zh hn;clear hcl hn;(have d7:l 7=true:=by simp[hdep]);have d4:l 4=true:=HCL.o 7 _ rfl d7 ⟨4,.data⟩ (by simp) rfl;have h11:=HN.o;have e10:=H10.o (by simp[hdep]);refine zAl rfl (.tmp 51) (.tmp 54) 26 rfl WW.heap.size 3 i0 _ 1 8 Try.underlying26 hi0 hz0 hz1 hz2 rfl (by omega) (v 7) (j+1) (intRow (ll.take j++[x])) rfl (H7.o d7 h11) _ B2 (q-j) d2 (intRow (ll.drop j)) (intCell (ll.drop j)) (by exact e10) (HR2.o.below H13.o (wAg _)) hA2 (by rw[zAh,HL2.o,wAj]) (fun i j' hi hj=>zAi _ i j' (by rw[HL2.o];exact hi) hj) (zAg _) (by simp only[maxLen];omega) (by omega) H13.o.size ?_;intro v9 w9 hown9 hg9 hat9;refine hK.out v9 w9 ?_;rw[HFD.o];exact⟨zh ((fun h h4=>absurd h4 (by rw[show updR l 11 true 4=l 4 from rfl,d4];decide))),H1,H2,H3,zh ((fun _ h=>absurd h (by rw[show updR l 11 true 7=l 7 from rfl,d7];decide))),H5,zh ((fun _ h=>absurd h (by rw[show updR l 11 true 7=l 7 from rfl,d7];decide))),zh ((fun _ h=>absurd h (by simp[updR]))),H8,H9,H10,zh ((fun _=>by have h:=hown9;rw[← zAd,show j+1+(q-j)=q+1 by omega] at h;exact h)),zh (⟨fun h=>absurd (HCL.o 12 _ rfl h ⟨11,.data⟩ (by simp) rfl) (by rw[HN.o];decide),H12.o.2⟩),zh ((H13.o.grown hg9 H13.o.size (fun z hz=>((H7.o d7 h11).lt z hz).1)))⟩
       ·intro l v wr hn hdep hcl hF K hK;rw[HFD.o] at hF;obtain⟨H0,H1,H2,H3,H4,H5,H6,H7,H8,H9,H10,H11,H12,H13⟩:=hF;simp[wAd] at hdep;have HCL:=zh hcl;have HN:=zh hn;clear hcl hn;go_simp
        have hk:=hK.out (v 11) wr (by
         rw[HFD.o]
         exact⟨H0,H1,H2,H3,H4,H5,H6,H7,H8,H9,H10,H11,zh (⟨fun _=>rfl,fun h=>absurd h (by simp[updR])⟩),H13⟩)
        simp only[wAf,wAa,wAb,wAc] at hk;exact hk
  ·(obtain rfl:n=k:=by omega);have hend:lb.take n=lb:=List.take_of_length_le (by rw[HN.o];exact wAg _);have HL':=HL.o;rw[hend] at HL';have HE:=zh (show (uniL la lb).length=q by rw[← HL',HQ.o]);rw[HL'] at HOWN;have HBE:=zh ((HHW.o▸HB1.o:Below H w w1).trans HBK.o);go_wp2;refine bodyPost_ret (v:=.slice A3 q c3) (by simp[results,Try.results17,go_sem]) rfl ⟨A3,c3,?_⟩;rw[HE.o,← HHW.o];exact⟨rfl,HOWN.o,HBE.o⟩
end Go.Proofs.Ytkfdhpbnphojoaa
