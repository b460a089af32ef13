/- The texts UnL of this proof. No conditions. -/
import Derived.Test.YtkfdhpbnphojoaaKa4
import Derived.Test.YtkfdhpbnphojoaaKa33
import Derived.Test.YtkfdhpbnphojoaaKa3
/- Text UnL. -/
namespace Gm
def uniL (la lb:List Int):List Int:=lb.foldl (fun s x=>insI x s) la
theorem uniL_snoc (la lb:List Int) (x:Int):uniL la (lb++[x])=insI x (uniL la lb):=by unfold uniL;rw[List.foldl_append];rfl
theorem uniL_mem {la:List Int} : ∀ {lb:List Int} {y:Int},y∈uniL la lb↔y∈la∨y∈lb:=by
 intro lb
 induction lb generalizing la with
 | nil=>intro y;simp[uniL]
 | cons x lb ih =>
  intro y
  show y∈uniL (insI x la) lb↔_
  rw[ih,insI_mem,List.mem_cons];constructor
  ·
   rintro ((h | h) | h)
   · exact .inr (.inl h)
   · exact .inl h
   · exact .inr (.inr h)
  ·
   rintro (h | h | h)
   · exact .inl (.inr h)
   · exact .inl (.inl h)
   · exact .inr h
theorem uniL_len (la:List Int):∀ lb:List Int,(uniL la lb).length≤la.length+lb.length:=by
 intro lb
 induction lb generalizing la with
 | nil=>simp[uniL]
 | cons x lb ih =>
  have h1:=ih (insI x la);have h2:=insI_len x la;have h3:uniL la (x::lb)=uniL (insI x la) lb:=rfl;rw[h3,List.length_cons];omega
end Gm
namespace Go.Proofs.Ytkfdhpbnphojoaa
open Go.RowKit Gm
set_option linter.unusedSimpArgs false
set_option linter.unusedVariables false
set_option maxRecDepth 100000 in
set_option maxHeartbeats 16000000 in
theorem union2_any (
 va vb:Value) (la lb:List Int) (w:World) (B:Nat) (hB:B≤w.heap.size) (ha:Nums w B va la) (hb:Nums w B vb lb) (hlen:la.length+lb.length≤1000000) :
 Calls Try.prog 17 #[va,vb] w fun e w'=>∃ A' c',e=.returned (.slice A' (uniL la lb).length c')∧w'.ownsRow w.heap.size 3 1 (.slice A' (uniL la lb).length c') (uniL la lb).length (intRow (uniL la lb))∧Below w.heap.size w w':=by
 obtain⟨i0,hi0,hz0,hz1,hz2⟩:=info_parts int_info;obtain⟨A,c,rfl,hra,hAn⟩:=nums_form ha;obtain⟨A2,n,c2,rfl,HN,hnc,hnb,hrb⟩:=hb;have HRA:=hide hra;have HRB:=hide hrb;rw[HN.out] at hlen;obtain⟨m,hm⟩:∃ z,z=la.length:=⟨_,rfl⟩;rw[← hm] at HRA hlen hAn ⊢;have HM:=hide hm;unfold big at hnb;clear hra hrb ha hm
 go_enter Try.func17,Try.ntmps17
 have HE0:=hide (own_emptyI (w:=w.alloc (.cells #[] 3)) (base:=w.heap.size) (g:=w.heap.size) (sz:=1) (e:=3) (Blk.at_ rfl) (Nat.le_refl _));have HB0:=hide (show Below w.heap.size w (w.alloc (.cells #[] 3)) from (Below.refl _ _).alloc (Nat.le_refl _) _);go_upto_region 3 with (at_builtin;go_loud (refine wpList_append_any _ rfl (.tmp 9) (.tmp 10) 26 rfl w.heap.size 3 i0 _ 1 8 Try.underlying26 hi0 hz0 hz1 hz2 rfl (by omega) (.slice (some ⟨w.heap.size,0,none⟩) 0 0) 0 [] rfl HE0.out B A m c (intRow la) (intCell la) rfl (HRA.out.below HB0.out hB) hAn (by rw[intRow_length,HM.out,Nat.mul_one]) (fun i j hi hj=>intRow_at _ i j (by rw[← HM.out];exact hi) hj) (intRow_one _) (by simp only[maxLen];omega) (by omega) (by simp) ?_;intro v1 w1 hown1 hg1 _;have HO1:=hide hown1;have HB1:=hide (HB0.out.grown hg1 (by simp) (fun q hq=>by simp[Value.ownBlock] at hq;omega));clear hown1 hg1))
 rw[Nat.zero_add] at HO1;rw[show ([]:List Value)++intRow la=intRow la from rfl] at HO1;obtain⟨A1,c1,rfl,hc1,_⟩:=own_value HO1.out;clear HE0 HB0;obtain⟨H,hH⟩:∃ H,H=w.heap.size:=⟨_,rfl⟩;rw[← hH] at HO1 HB1 hB ⊢;have hz1':H≤w1.heap.size:=by rw[hH];exact hH▸HB1.out.size
 replace HRB:=hide (HRB.out.below HB1.out hB);have HHW:=hide hH;clear hH HRA
 go_loopw [5,14] (fun lv iv wr=>∃ (k:Nat) (A3:Option Addr) (q c3:Nat) (l:List Int),k≤n∧iv=.int .i64 k∧lv=.slice A3 q c3∧Hid (l=uniL la (lb.take k))∧Hid (l.length=q)∧q≤m+k∧Hid (wr.ownsRow H 3 1 (.slice A3 q c3) q (intRow l))∧Hid (Below H w1 wr)∧H≤wr.heap.size) (fun _ iv _=>n-(intOf iv).toNat)
 case atStart=>exact⟨0,A1,m,c1,la,by omega,rfl,rfl,hide (by simp[uniL]),hide HM.out.symm,by omega,HO1,hide (Below.refl _ _),hz1'⟩
 case round =>
  clear HO1;obtain⟨k,A3,q,c3,l,hk,rfl,rfl,HL,HQ,hqk,HOWN,HBK,hzr⟩:=hrel;by_cases hkn:k<n
  ·
   obtain⟨bb,off,x,rfl,hbB,d0,HX⟩:=num_at (HRB.out.below HBK.out hB) hkn;have hkl:k<lb.length:=by rw[HN.out];exact hkn
   have HTK:=hide (show uniL la (lb.take (k+1))=insI x l by
    rw[HL.out,← uniL_snoc,List.take_add_one,List.getElem?_eq_getElem hkl,show lb[k]=x by rw[← HX.out];simp[hkl]];rfl)
   have lbb:bb<wr.heap.size:=by omega
   have HP:=hide (posI_le x l);have hqb:q≤1000000:=by omega
   clear HX hkl;go_upto_region 6 with fail
   obtain⟨W5,hW5⟩:∃ z,z=wr:=⟨_,rfl⟩;rw[← hW5] at HOWN HBK hzr lbb d0 ⊢;clear hW5;have HRD:=hide (Rd.of_own HOWN.out (HQ.out▸intRow_at l))
   go_loopw [8] (fun jv wi=>∃ j:Nat,j≤posI x l∧jv=.int .i64 j∧wi=W5) (fun jv _=>posI x l-(intOf jv).toNat)
   case atStart=>exact⟨0,by omega,rfl,rfl⟩
   case round =>
    obtain⟨j,hj,rfl,hwi⟩:=hrel;have HWI:=hide hwi;have HST:=hide (posI_step x l j hj);have HRJ:=hide (show Rd wr wr.heap.size 1 A3 q (intCell l) by rw[hwi];exact HRD.out);clear hwi;by_cases hjp:j<posI x l
    ·
     have hjx:=HST.out.2 hjp;have hjq:j<q:=by rw[← HQ.out];exact hjx.1
     obtain⟨b2,o2,y,rfl,h2,e2,HY⟩:=num_at HRJ.out hjq;have s1:decide (y<x)=true:=decide_eq_true (by rw[← HY.out];exact hjx.2);clear HY hjx HST;go_wp2;go_roundw
     case rel=>exact⟨j+1,by omega,by go_num,HWI.out⟩
     case measure=>simp[intOf];omega
    ·
     have hjp':posI x l=j:=by omega
     have hjq:j≤q:=by have:=HP.out;rw[HQ.out] at this;omega
     have hno:¬ (j<l.length∧l.getD j 0<x):=fun g=>hjp (HST.out.1 g)
     rw[HQ.out] at hno;obtain⟨wq,hwq⟩:∃ z,z=wr:=⟨_,rfl⟩;have HOW:=hide (show wr.ownsRow H 3 1 (.slice A3 q c3) q (intRow l) by rw[HWI.out];exact HOWN.out);have HBW:=hide (show Below H w1 wr by rw[HWI.out];exact HBK.out);have hzw:H≤wr.heap.size:=(by have:=HBW.out.size;omega);clear HST hwq;have HIN:=hide hno;clear hno hjp;have HJP:=hide hjp';clear hjp' hj;by_cases hlt:j<q
     ·
      obtain⟨b2,o2,y,hA3,h2,e2,HY⟩:=num_at HRJ.out hlt;have HAA:=hide hA3;have s1:decide (y<x)=false:=decide_eq_false (fun g=>HIN.out ⟨hlt,by rw[HY.out];exact g⟩);have tj:((j:Int)==(q:Int))=false:=by simp;omega
      have tj':decide ((j:Int)=(q:Int))=false:=decide_eq_false (by omega);by_cases hyx:y=x
      ·
       have HII:=hide (insI_yes (x:=x) (l:=l) ⟨by rw[HJP.out,HQ.out];exact hlt,by rw[HJP.out,HY.out];exact hyx⟩);rw[HII.out] at HTK;have s2:(y != x)=false:=by simp[hyx]
       have s2':decide (y=x)=true:=decide_eq_true hyx;subst hA3;clear hyx HY HIN HJP HII;go_wp2;go_roundw
       case rel=>exact⟨k+1,_,q,c3,l,by omega,by go_num,rfl,hide HTK.out.symm,HQ,by omega,HOW,HBW,hzw⟩
       case measure=>simp[intOf];omega
      ·
       have HII:=hide (insI_no (x:=x) (l:=l) (fun h=>hyx (by rw[← HY.out,← HJP.out];exact h.2)));rw[HII.out,HJP.out] at HTK;have s2:(y != x)=true:=by simp[hyx]
       have s2':decide (y=x)=false:=decide_eq_false hyx;subst hA3;clear hyx HY HIN HJP HII;go_upto_region 9 with fail
       obtain⟨WW,hWW⟩:∃ z,z=wr:=⟨_,rfl⟩;rw[← hWW] at HOW HBW hzw ⊢;have HRW:=hide (Rd.of_own HOW.out (HQ.out▸intRow_at l));clear hWW HRJ;obtain⟨A3',c3',hv3,hqc3,_⟩:=own_value HOW.out;have hqc3:q≤c3:=by injection hv3 with e1 e2 e3;omega
       clear hv3;obtain⟨V1,hV1,hn1⟩:=cut_take (A:=(some ⟨b2,o2,none⟩)) (c:=c3) (k:=j) hjq hqc3 (by unfold big;omega);obtain⟨V2,hV2,hn2⟩:=cut_drop (A:=(some ⟨b2,o2,none⟩)) (c:=c3) (k:=j) hjq hqc3 (by unfold big;omega);have HNW:=hide (show Nums WW WW.heap.size (.slice (some ⟨b2,o2,none⟩) q c3) l from ⟨_,_,_,rfl,HQ,hqc3,by unfold big;omega,HRW.out⟩);obtain⟨B1,d1,rfl,hr1,hA1⟩:=nums_form (hn1 _ _ _ HNW.out);obtain⟨B2,d2,rfl,hr2,hA2⟩:=nums_form (hn2 _ _ _ HNW.out);have HL1:=hide (show (l.take j).length=j by rw[List.length_take,HQ.out];omega);have HL2:=hide (show (l.drop j).length=q-j by rw[List.length_drop,HQ.out]);rw[HL1.out] at hV1 hr1 hA1;rw[HL2.out] at hV2 hr2 hA2;have HR1:=hide hr1;have HR2:=hide hr2;have HV1:=hide hV1;have HV2:=hide hV2;clear hr1 hr2 hn1 hn2 HNW HRW hV1 hV2;obtain⟨ll,hll⟩:∃ z,z=l:=⟨_,rfl⟩;rw[← hll] at HL1 HL2 HR1 HR2 HTK;clear hll HQ HL HP
       obtain⟨F,hF⟩:∃ F:(Nat→Bool)→(Nat→Value)→World→Prop,F=fun l v wr =>
        Hid ((l 0=true→l 4=false→∃ g,v 0=.slice (some ⟨g,0,none⟩) 0 0∧WW.heap.size≤g∧Blk wr g 3 #[])) ∧
        Hid ((l 1=true→v 1=(.slice (some ⟨b2,o2,none⟩) q c3))) ∧
        Hid ((l 2=true→v 2=.int .i64 (j:Int))) ∧
        Hid ((l 3=true→v 3=.slice B1 j d1)) ∧
        Hid ((l 4=true→l 7=false→wr.ownsRow WW.heap.size 3 1 (v 4) j (intRow (ll.take j)))) ∧
        Hid ((l 5=true→v 5=.int .i64 x)) ∧
        Hid ((l 6=true→l 7=false→∃ g,v 6=.slice (some ⟨g,0,none⟩) 1 1∧WW.heap.size≤g∧Blk wr g 3 #[.int .i64 x]∧(l 0=true→l 4=false→v 0≠.slice (some ⟨g,0,none⟩) 0 0)∧(l 4=true→(v 4).ownBlock≠some g))) ∧
        Hid ((l 7=true→l 11=false→wr.ownsRow WW.heap.size 3 1 (v 7) (j+1) (intRow (ll.take j++[x])))) ∧
        Hid ((l 8=true→v 8=(.slice (some ⟨b2,o2,none⟩) q c3))) ∧
        Hid ((l 9=true→v 9=.int .i64 (j:Int))) ∧
        Hid ((l 10=true→v 10=.slice B2 (q-j) d2)) ∧
        Hid ((l 11=true→wr.ownsRow WW.heap.size 3 1 (v 11) (q+1) (intRow (ll.take j++[x]++ll.drop j)))) ∧
        Hid ((l 12=true→v 12=v 11)∧(l 12=false→v 12=(.slice (some ⟨b2,o2,none⟩) q c3))) ∧
        Hid (Below WW.heap.size WW wr):=⟨_,rfl⟩
       have HFD:=hide hF;clear hF;refine wp_region_inv2 F (A:=?AR1) ?hA (by kernel_rfl) (by kernel_rfl) (by kernel_rfl) ?h0 ?hend ?hsteps
       case hA=>intro v;simp only[putR,Act.put,List.setIfInBounds_toArray,List.set_cons_zero,List.set_cons_succ,Nat.reduceAdd,Nat.zero_add];exact rfl
       case h0 =>
        rw[HFD.out];exact⟨hide (fun h=>by exfalso;simp at h),hide (fun h=>by exfalso;simp at h),hide (fun h=>by exfalso;simp at h),hide (fun h=>by exfalso;simp at h),hide (fun h=>by exfalso;simp at h),hide (fun h=>by exfalso;simp at h),hide (fun h=>by exfalso;simp at h),hide (fun h=>by exfalso;simp at h),hide (fun h=>by exfalso;simp at h),hide (fun h=>by exfalso;simp at h),hide (fun h=>by exfalso;simp at h),hide (fun h=>by exfalso;simp at h),hide (⟨fun h=>by exfalso;simp at h,fun _=>rfl⟩),hide ((Below.refl _ _).drew)⟩
       case hend =>
        intro l v wr hall hF;rw[HFD.out] at hF;obtain⟨H0,H1,H2,H3,H4,H5,H6,H7,H8,H9,H10,H11,H12,H13⟩:=hF;have f0:=H0.out;have f1:=H1.out;have f2:=H2.out;have f3:=H3.out;have f4:=H4.out;have f5:=H5.out;have f6:=H6.out;have f7:=H7.out;have f8:=H8.out;have f9:=H9.out;have f10:=H10.out;have f11:=H11.out;have f12:=H12.out;have f13:=H13.out;clear H0 H1 H2 H3 H4 H5 H6 H7 H8 H9 H10 H11 H12 H13;have h11:=f11 (hall 11 (by simp));have h12:=f12.1 (hall 12 (by simp));obtain⟨A8,c8,e11,_,_⟩:=own_value h11;rw[e11] at h11 h12;have HE:=hide h12;have HO8:=hide h11;have HB8:=hide f13;clear f0 f1 f2 f3 f4 f5 f6 f7 f8 f9 f10 f11 f12 f13 hall h11 h12 e11;go_wp2;go_roundw
        case rel=>exact⟨k+1,A8,q+1,c8,ll.take j++[x]++ll.drop j,by omega,by go_num,HE.out,hide HTK.out.symm,hide (by simp only[List.length_append,List.length_cons,List.length_nil];rw[HL1.out,HL2.out];omega),by omega,hide (own_monoI HO8.out hzw),hide (HBW.out.trans (HB8.out.mono hzw)),by have:=HB8.out.size;omega⟩
        case measure=>simp[intOf];omega
       case hsteps =>
        refine StepsR.cons (n:=0) ?_ (StepsR.cons (n:=1) ?_ (StepsR.cons (n:=2) ?_ (StepsR.cons (n:=3) ?_ (StepsR.cons (n:=4) ?_ (StepsR.cons (n:=5) ?_ (StepsR.cons (n:=6) ?_ (StepsR.cons (n:=7) ?_ (StepsR.cons (n:=8) ?_ (StepsR.cons (n:=9) ?_ (StepsR.cons (n:=10) ?_ (StepsR.cons (n:=11) ?_ (StepsR.cons (n:=12) ?_ (trivial)))))))))))))
        ·
         intro l v wr hn hdep hcl hF K hK;rw[HFD.out] at hF;obtain⟨H0,H1,H2,H3,H4,H5,H6,H7,H8,H9,H10,H11,H12,H13⟩:=hF;simp[Region.binds] at hdep;have HCL:=hide hcl;have HN:=hide hn;clear hcl hn;have HBA:=hide (show Below wr.heap.size wr (wr.alloc (.cells #[] 3)) from (Below.refl _ _).alloc (Nat.le_refl _) _);go_simp
         have hk:=hK.out (.slice (some ⟨wr.heap.size,0,none⟩) 0 0) (wr.alloc (.cells #[] 3)) (by
          rw[HFD.out]
          exact⟨hide ((fun _ _=>⟨wr.heap.size,rfl,H13.out.size,Blk.at_ rfl⟩)),H1,H2,H3,hide ((fun h h7=>own_belowI (H4.out h h7) HBA.out)),H5,hide ((fun h h7=>by obtain⟨g,h1,h2,h3,h4,h5⟩:=H6.out h h7;refine⟨g,h1,h2,h3.below HBA.out h3.lt,fun _ _ he=>?_,h5⟩;have:=h3.lt;have he:Value.slice (some ⟨wr.heap.size,0,none⟩) 0 0=.slice (some ⟨g,0,none⟩) 0 0:=he;injection he with he;injection he with he;injection he with he;omega)),hide ((fun h h11=>own_belowI (H7.out h h11) HBA.out)),H8,H9,H10,hide ((fun h=>own_belowI (H11.out h) HBA.out)),H12,hide (H13.out.trans ((HBA.out).mono H13.out.size))⟩)
         simp only[Act.put,List.setIfInBounds_toArray,List.set_cons_zero,List.set_cons_succ] at hk;exact hk
        ·
         intro l v wr hn hdep hcl hF K hK;rw[HFD.out] at hF;obtain⟨H0,H1,H2,H3,H4,H5,H6,H7,H8,H9,H10,H11,H12,H13⟩:=hF;simp[Region.binds] at hdep;have HCL:=hide hcl;have HN:=hide hn;clear hcl hn;have e12:=H12.out.2 (by cases g:l 12 with | false=>rfl | true=>exact absurd (HCL.out 12 _ rfl g ⟨1,.phase⟩ (by simp) rfl) (by rw[HN.out];decide));go_simp
         have hk:=hK.out (.slice (some ⟨b2,o2,none⟩) q c3) wr (by
          rw[HFD.out]
          exact⟨H0,hide ((fun _=>rfl)),H2,H3,H4,H5,H6,H7,H8,H9,H10,H11,H12,H13⟩)
         simp only[Act.put,List.setIfInBounds_toArray,List.set_cons_zero,List.set_cons_succ] at hk;simp only[e12] at hk;exact hk
        ·
         intro l v wr hn hdep hcl hF K hK;rw[HFD.out] at hF;obtain⟨H0,H1,H2,H3,H4,H5,H6,H7,H8,H9,H10,H11,H12,H13⟩:=hF;simp[Region.binds] at hdep;have HCL:=hide hcl;have HN:=hide hn;clear hcl hn;go_simp
         have hk:=hK.out (.int .i64 (j:Int)) wr (by
          rw[HFD.out]
          exact⟨H0,H1,hide ((fun _=>rfl)),H3,H4,H5,H6,H7,H8,H9,H10,H11,H12,H13⟩)
         simp only[Act.put,List.setIfInBounds_toArray,List.set_cons_zero,List.set_cons_succ] at hk;exact hk
        ·
         intro l v wr hn hdep hcl hF K hK;rw[HFD.out] at hF;obtain⟨H0,H1,H2,H3,H4,H5,H6,H7,H8,H9,H10,H11,H12,H13⟩:=hF;simp[Region.binds] at hdep;have HCL:=hide hcl;have HN:=hide hn;clear hcl hn;have e1:=H1.out (by simp[hdep]);have e2:=H2.out (by simp[hdep]);have hV1:=HV1.out;go_simp
         have hk:=hK.out (.slice B1 j d1) wr (by
          rw[HFD.out]
          exact⟨H0,H1,H2,hide ((fun _=>rfl)),H4,H5,H6,H7,H8,H9,H10,H11,H12,H13⟩)
         simp only[Act.put,List.setIfInBounds_toArray,List.set_cons_zero,List.set_cons_succ] at hk;simp only[e1,e2] at hk;exact hk
        ·
         intro l v wr hn hdep hcl hF K hK;rw[HFD.out] at hF;obtain⟨H0,H1,H2,H3,H4,H5,H6,H7,H8,H9,H10,H11,H12,H13⟩:=hF;simp[Region.binds] at hdep;have HCL:=hide hcl;have HN:=hide hn;clear hcl hn;have d0:l 0=true:=by simp[hdep]
         have e3:=H3.out (by simp[hdep]);have h40:=HN.out;obtain⟨g0,e0,hg0,hbk⟩:=H0.out d0 h40;refine step_append_any rfl (.tmp 44) (.tmp 47) 26 rfl WW.heap.size 3 i0 _ 1 8 Try.underlying26 hi0 hz0 hz1 hz2 rfl (by omega) (v 0) 0 [] rfl (by rw[e0];exact own_emptyI hbk hg0) _ B1 j d1 (intRow (ll.take j)) (intCell (ll.take j)) (by exact e3) (HR1.out.below H13.out (Nat.le_refl _)) hA1 (by rw[intRow_length,HL1.out,Nat.mul_one]) (fun i j' hi hj=>intRow_at _ i j' (by rw[HL1.out];exact hi) hj) (intRow_one _) (by simp only[maxLen];omega) (by omega) H13.out.size ?_;intro v9 w9 hown9 hg9 hat9;refine hK.out v9 w9 ?_;rw[HFD.out];exact⟨hide ((fun _ h=>absurd h (by simp[updR]))),H1,H2,H3,hide ((fun _ _=>by have h:=hown9;rw[Nat.zero_add] at h;exact h)),H5,hide ((fun h h7=>by obtain⟨g,h1,h2,h3,h4,h5⟩:=H6.out h h7;have hne:g0≠g:=(fun e=>h4 d0 h40 (by rw[e0,e]));refine⟨g,h1,h2,h3.grown hg9 (by rw[e0];simp only[Value.ownBlock];intro e;injection e with e;exact hne e.symm),fun _ h=>absurd h (by simp[updR]),fun _ e=>?_⟩;have e:v9.ownBlock=some g:=e;rcases hat9 with z | z;(rw[z,e0] at e;simp only[Value.ownBlock] at e;injection e with e;exact hne e);(rw[z] at e;injection e with e;have:=h3.lt;omega))),hide ((fun h=>absurd (HCL.out 7 _ rfl h ⟨4,.data⟩ (by simp) rfl) (by rw[HN.out];decide))),H8,H9,H10,hide ((fun h=>absurd (HCL.out 7 _ rfl (HCL.out 11 _ rfl h ⟨7,.data⟩ (by simp) rfl) ⟨4,.data⟩ (by simp) rfl) (by rw[HN.out];decide))),H12,hide ((H13.out.grown hg9 H13.out.size (fun z hz=>by rw[e0] at hz;simp only[Value.ownBlock] at hz;injection hz with hz;omega)))⟩
        ·
         intro l v wr hn hdep hcl hF K hK;rw[HFD.out] at hF;obtain⟨H0,H1,H2,H3,H4,H5,H6,H7,H8,H9,H10,H11,H12,H13⟩:=hF;simp[Region.binds] at hdep;have HCL:=hide hcl;have HN:=hide hn;clear hcl hn;go_simp
         have hk:=hK.out (.int .i64 x) wr (by
          rw[HFD.out]
          exact⟨H0,H1,H2,H3,H4,hide ((fun _=>rfl)),H6,H7,H8,H9,H10,H11,H12,H13⟩)
         simp only[Act.put,List.setIfInBounds_toArray,List.set_cons_zero,List.set_cons_succ] at hk;exact hk
        ·
         intro l v wr hn hdep hcl hF K hK;rw[HFD.out] at hF;obtain⟨H0,H1,H2,H3,H4,H5,H6,H7,H8,H9,H10,H11,H12,H13⟩:=hF;simp[Region.binds] at hdep;have HCL:=hide hcl;have HN:=hide hn;clear hcl hn;have e5:=H5.out (by simp[hdep]);have HBA:=hide (show Below wr.heap.size wr (wr.alloc (.cells #[.int .i64 x] 3)) from (Below.refl _ _).alloc (Nat.le_refl _) _);go_simp
         have hk:=hK.out (.slice (some ⟨wr.heap.size,0,none⟩) 1 1) (wr.alloc (.cells #[.int .i64 x] 3)) (by
          rw[HFD.out]
          exact⟨hide ((fun h h4=>by obtain⟨g,h1,h2,h3⟩:=H0.out h h4;exact⟨g,h1,h2,h3.below HBA.out h3.lt⟩)),H1,H2,H3,hide ((fun h h7=>own_belowI (H4.out h h7) HBA.out)),H5,hide ((fun _ _=>⟨wr.heap.size,rfl,H13.out.size,Blk.at_ rfl,fun h h4 he=>by obtain⟨g,h1,_,h3⟩:=H0.out h h4;have:=h3.lt;rw[show updR v 6 _ 0=v 0 from rfl,h1] at he;injection he with he;injection he with he;injection he with he;omega,fun h e=>by have h7:l 7=false:=(by cases g:l 7 with | false=>rfl | true=>exact absurd (HCL.out 7 _ rfl g ⟨6,.data⟩ (by simp) rfl) (by rw[HN.out];decide));have:=((H4.out h h7).lt _ e).2;omega⟩)),hide ((fun h h11=>own_belowI (H7.out h h11) HBA.out)),H8,H9,H10,hide ((fun h=>own_belowI (H11.out h) HBA.out)),H12,hide (H13.out.trans ((HBA.out).mono H13.out.size))⟩)
         simp only[Act.put,List.setIfInBounds_toArray,List.set_cons_zero,List.set_cons_succ] at hk;simp only[e5] at hk;exact hk
        ·
         intro l v wr hn hdep hcl hF K hK;rw[HFD.out] at hF;obtain⟨H0,H1,H2,H3,H4,H5,H6,H7,H8,H9,H10,H11,H12,H13⟩:=hF;simp[Region.binds] at hdep;have HCL:=hide hcl;have HN:=hide hn;clear hcl hn;have d4:l 4=true:=by simp[hdep]
         have h7:=HN.out;obtain⟨g,e6,hg,hb6,_,_⟩:=H6.out (by simp[hdep]) h7;refine step_append_any rfl (.tmp 48) (.tmp 50) 26 rfl WW.heap.size 3 i0 _ 1 8 Try.underlying26 hi0 hz0 hz1 hz2 rfl (by omega) (v 4) j (intRow (ll.take j)) rfl (H4.out d4 h7) _ (some ⟨g,0,none⟩) 1 1 (intRow [x]) (intCell [x]) (by exact e6) (rd_single (t:=3) hb6) (by simp) (by simp[intRow]) (intRow_at [x]) (intRow_one _) (by simp only[maxLen];omega) (by omega) H13.out.size ?_;intro v9 w9 hown9 hg9 hat9;refine hK.out v9 w9 ?_;rw[HFD.out];exact⟨hide ((fun h h4=>absurd h4 (by rw[show updR l 7 true 4=l 4 from rfl,d4];decide))),H1,H2,H3,hide ((fun _ h=>absurd h (by simp[updR]))),H5,hide ((fun _ h=>absurd h (by simp[updR]))),hide ((fun _ _=>by have h:=hown9;rw[← intRow_append] at h;exact h)),H8,H9,H10,hide ((fun h=>absurd (HCL.out 11 _ rfl h ⟨7,.data⟩ (by simp) rfl) (by rw[HN.out];decide))),H12,hide ((H13.out.grown hg9 H13.out.size (fun z hz=>((H4.out d4 h7).lt z hz).1)))⟩
        ·
         intro l v wr hn hdep hcl hF K hK;rw[HFD.out] at hF;obtain⟨H0,H1,H2,H3,H4,H5,H6,H7,H8,H9,H10,H11,H12,H13⟩:=hF;simp[Region.binds] at hdep;have HCL:=hide hcl;have HN:=hide hn;clear hcl hn;have e12:=H12.out.2 (by cases g:l 12 with | false=>rfl | true=>exact absurd (HCL.out 12 _ rfl g ⟨8,.phase⟩ (by simp) rfl) (by rw[HN.out];decide));go_simp
         have hk:=hK.out (.slice (some ⟨b2,o2,none⟩) q c3) wr (by
          rw[HFD.out]
          exact⟨H0,H1,H2,H3,H4,H5,H6,H7,hide ((fun _=>rfl)),H9,H10,H11,H12,H13⟩)
         simp only[Act.put,List.setIfInBounds_toArray,List.set_cons_zero,List.set_cons_succ] at hk;simp only[e12] at hk;exact hk
        ·
         intro l v wr hn hdep hcl hF K hK;rw[HFD.out] at hF;obtain⟨H0,H1,H2,H3,H4,H5,H6,H7,H8,H9,H10,H11,H12,H13⟩:=hF;simp[Region.binds] at hdep;have HCL:=hide hcl;have HN:=hide hn;clear hcl hn;go_simp
         have hk:=hK.out (.int .i64 (j:Int)) wr (by
          rw[HFD.out]
          exact⟨H0,H1,H2,H3,H4,H5,H6,H7,H8,hide ((fun _=>rfl)),H10,H11,H12,H13⟩)
         simp only[Act.put,List.setIfInBounds_toArray,List.set_cons_zero,List.set_cons_succ] at hk;exact hk
        ·
         intro l v wr hn hdep hcl hF K hK;rw[HFD.out] at hF;obtain⟨H0,H1,H2,H3,H4,H5,H6,H7,H8,H9,H10,H11,H12,H13⟩:=hF;simp[Region.binds] at hdep;have HCL:=hide hcl;have HN:=hide hn;clear hcl hn;have e8:=H8.out (by simp[hdep]);have e9:=H9.out (by simp[hdep]);have hV2:=HV2.out;go_simp
         have hk:=hK.out (.slice B2 (q-j) d2) wr (by
          rw[HFD.out]
          exact⟨H0,H1,H2,H3,H4,H5,H6,H7,H8,H9,hide ((fun _=>rfl)),H11,H12,H13⟩)
         simp only[Act.put,List.setIfInBounds_toArray,List.set_cons_zero,List.set_cons_succ] at hk;simp only[e8,e9] at hk;exact hk
        ·
         intro l v wr hn hdep hcl hF K hK;rw[HFD.out] at hF;obtain⟨H0,H1,H2,H3,H4,H5,H6,H7,H8,H9,H10,H11,H12,H13⟩:=hF;simp[Region.binds] at hdep;have HCL:=hide hcl;have HN:=hide hn;clear hcl hn;have d7:l 7=true:=by simp[hdep]
         have d4:l 4=true:=HCL.out 7 _ rfl d7 ⟨4,.data⟩ (by simp) rfl;have h11:=HN.out;have e10:=H10.out (by simp[hdep]);refine step_append_any rfl (.tmp 51) (.tmp 54) 26 rfl WW.heap.size 3 i0 _ 1 8 Try.underlying26 hi0 hz0 hz1 hz2 rfl (by omega) (v 7) (j+1) (intRow (ll.take j++[x])) rfl (H7.out d7 h11) _ B2 (q-j) d2 (intRow (ll.drop j)) (intCell (ll.drop j)) (by exact e10) (HR2.out.below H13.out (Nat.le_refl _)) hA2 (by rw[intRow_length,HL2.out,Nat.mul_one]) (fun i j' hi hj=>intRow_at _ i j' (by rw[HL2.out];exact hi) hj) (intRow_one _) (by simp only[maxLen];omega) (by omega) H13.out.size ?_;intro v9 w9 hown9 hg9 hat9;refine hK.out v9 w9 ?_;rw[HFD.out];exact⟨hide ((fun h h4=>absurd h4 (by rw[show updR l 11 true 4=l 4 from rfl,d4];decide))),H1,H2,H3,hide ((fun _ h=>absurd h (by rw[show updR l 11 true 7=l 7 from rfl,d7];decide))),H5,hide ((fun _ h=>absurd h (by rw[show updR l 11 true 7=l 7 from rfl,d7];decide))),hide ((fun _ h=>absurd h (by simp[updR]))),H8,H9,H10,hide ((fun _=>by have h:=hown9;rw[← intRow_append,show j+1+(q-j)=q+1 by omega] at h;exact h)),hide (⟨fun h=>absurd (HCL.out 12 _ rfl h ⟨11,.data⟩ (by simp) rfl) (by rw[HN.out];decide),H12.out.2⟩),hide ((H13.out.grown hg9 H13.out.size (fun z hz=>((H7.out d7 h11).lt z hz).1)))⟩
        ·
         intro l v wr hn hdep hcl hF K hK;rw[HFD.out] at hF;obtain⟨H0,H1,H2,H3,H4,H5,H6,H7,H8,H9,H10,H11,H12,H13⟩:=hF;simp[Region.binds] at hdep;have HCL:=hide hcl;have HN:=hide hn;clear hcl hn;go_simp
         have hk:=hK.out (v 11) wr (by
          rw[HFD.out]
          exact⟨H0,H1,H2,H3,H4,H5,H6,H7,H8,H9,H10,H11,hide (⟨fun _=>rfl,fun h=>absurd h (by simp[updR])⟩),H13⟩)
         simp only[Act.put,List.setIfInBounds_toArray,List.set_cons_zero,List.set_cons_succ] at hk;exact hk
     ·
      have hjq':j=q:=by omega
      have HII:=hide (insI_no (x:=x) (l:=l) (fun h=>hlt (by have:=h.1;rw[HJP.out,HQ.out] at this;exact this)));rw[HII.out,HJP.out] at HTK;clear HIN HJP HII;have tj:((j:Int)==(q:Int))=true:=by simp;omega
      have tj':decide ((j:Int)=(q:Int))=true:=decide_eq_true (by omega);clear hjq';have tl:decide ((j:Int)<(q:Int))=false:=decide_eq_false (by omega);have tl':decide (j<q)=false:=decide_eq_false hlt;clear hlt;go_upto_region 9 with fail
      obtain⟨WW,hWW⟩:∃ z,z=wr:=⟨_,rfl⟩;rw[← hWW] at HOW HBW hzw ⊢;have HRW:=hide (Rd.of_own HOW.out (HQ.out▸intRow_at l));clear hWW HRJ;obtain⟨A3',c3',hv3,hqc3,_⟩:=own_value HOW.out;have hqc3:q≤c3:=by injection hv3 with e1 e2 e3;omega
      clear hv3;obtain⟨V1,hV1,hn1⟩:=cut_take (A:=A3) (c:=c3) (k:=j) hjq hqc3 (by unfold big;omega);obtain⟨V2,hV2,hn2⟩:=cut_drop (A:=A3) (c:=c3) (k:=j) hjq hqc3 (by unfold big;omega);have HNW:=hide (show Nums WW WW.heap.size (.slice A3 q c3) l from ⟨_,_,_,rfl,HQ,hqc3,by unfold big;omega,HRW.out⟩);obtain⟨B1,d1,rfl,hr1,hA1⟩:=nums_form (hn1 _ _ _ HNW.out);obtain⟨B2,d2,rfl,hr2,hA2⟩:=nums_form (hn2 _ _ _ HNW.out);have HL1:=hide (show (l.take j).length=j by rw[List.length_take,HQ.out];omega);have HL2:=hide (show (l.drop j).length=q-j by rw[List.length_drop,HQ.out]);rw[HL1.out] at hV1 hr1 hA1;rw[HL2.out] at hV2 hr2 hA2;have HR1:=hide hr1;have HR2:=hide hr2;have HV1:=hide hV1;have HV2:=hide hV2;clear hr1 hr2 hn1 hn2 HNW HRW hV1 hV2;obtain⟨ll,hll⟩:∃ z,z=l:=⟨_,rfl⟩;rw[← hll] at HL1 HL2 HR1 HR2 HTK;clear hll HQ HL HP
      obtain⟨F,hF⟩:∃ F:(Nat→Bool)→(Nat→Value)→World→Prop,F=fun l v wr =>
       Hid ((l 0=true→l 4=false→∃ g,v 0=.slice (some ⟨g,0,none⟩) 0 0∧WW.heap.size≤g∧Blk wr g 3 #[])) ∧
       Hid ((l 1=true→v 1=(.slice A3 q c3))) ∧
       Hid ((l 2=true→v 2=.int .i64 (j:Int))) ∧
       Hid ((l 3=true→v 3=.slice B1 j d1)) ∧
       Hid ((l 4=true→l 7=false→wr.ownsRow WW.heap.size 3 1 (v 4) j (intRow (ll.take j)))) ∧
       Hid ((l 5=true→v 5=.int .i64 x)) ∧
       Hid ((l 6=true→l 7=false→∃ g,v 6=.slice (some ⟨g,0,none⟩) 1 1∧WW.heap.size≤g∧Blk wr g 3 #[.int .i64 x]∧(l 0=true→l 4=false→v 0≠.slice (some ⟨g,0,none⟩) 0 0)∧(l 4=true→(v 4).ownBlock≠some g))) ∧
       Hid ((l 7=true→l 11=false→wr.ownsRow WW.heap.size 3 1 (v 7) (j+1) (intRow (ll.take j++[x])))) ∧
       Hid ((l 8=true→v 8=(.slice A3 q c3))) ∧
       Hid ((l 9=true→v 9=.int .i64 (j:Int))) ∧
       Hid ((l 10=true→v 10=.slice B2 (q-j) d2)) ∧
       Hid ((l 11=true→wr.ownsRow WW.heap.size 3 1 (v 11) (q+1) (intRow (ll.take j++[x]++ll.drop j)))) ∧
       Hid ((l 12=true→v 12=v 11)∧(l 12=false→v 12=(.slice A3 q c3))) ∧
       Hid (Below WW.heap.size WW wr):=⟨_,rfl⟩
      have HFD:=hide hF;clear hF;refine wp_region_inv2 F (A:=?AR2) ?hA (by kernel_rfl) (by kernel_rfl) (by kernel_rfl) ?h0 ?hend ?hsteps
      case hA=>intro v;simp only[putR,Act.put,List.setIfInBounds_toArray,List.set_cons_zero,List.set_cons_succ,Nat.reduceAdd,Nat.zero_add];exact rfl
      case h0 =>
       rw[HFD.out];exact⟨hide (fun h=>by exfalso;simp at h),hide (fun h=>by exfalso;simp at h),hide (fun h=>by exfalso;simp at h),hide (fun h=>by exfalso;simp at h),hide (fun h=>by exfalso;simp at h),hide (fun h=>by exfalso;simp at h),hide (fun h=>by exfalso;simp at h),hide (fun h=>by exfalso;simp at h),hide (fun h=>by exfalso;simp at h),hide (fun h=>by exfalso;simp at h),hide (fun h=>by exfalso;simp at h),hide (fun h=>by exfalso;simp at h),hide (⟨fun h=>by exfalso;simp at h,fun _=>rfl⟩),hide ((Below.refl _ _).drew)⟩
      case hend =>
       intro l v wr hall hF;rw[HFD.out] at hF;obtain⟨H0,H1,H2,H3,H4,H5,H6,H7,H8,H9,H10,H11,H12,H13⟩:=hF;have f0:=H0.out;have f1:=H1.out;have f2:=H2.out;have f3:=H3.out;have f4:=H4.out;have f5:=H5.out;have f6:=H6.out;have f7:=H7.out;have f8:=H8.out;have f9:=H9.out;have f10:=H10.out;have f11:=H11.out;have f12:=H12.out;have f13:=H13.out;clear H0 H1 H2 H3 H4 H5 H6 H7 H8 H9 H10 H11 H12 H13;have h11:=f11 (hall 11 (by simp));have h12:=f12.1 (hall 12 (by simp));obtain⟨A8,c8,e11,_,_⟩:=own_value h11;rw[e11] at h11 h12;have HE:=hide h12;have HO8:=hide h11;have HB8:=hide f13;clear f0 f1 f2 f3 f4 f5 f6 f7 f8 f9 f10 f11 f12 f13 hall h11 h12 e11;go_wp2;go_roundw
       case rel=>exact⟨k+1,A8,q+1,c8,ll.take j++[x]++ll.drop j,by omega,by go_num,HE.out,hide HTK.out.symm,hide (by simp only[List.length_append,List.length_cons,List.length_nil];rw[HL1.out,HL2.out];omega),by omega,hide (own_monoI HO8.out hzw),hide (HBW.out.trans (HB8.out.mono hzw)),by have:=HB8.out.size;omega⟩
       case measure=>simp[intOf];omega
      case hsteps =>
       refine StepsR.cons (n:=0) ?_ (StepsR.cons (n:=1) ?_ (StepsR.cons (n:=2) ?_ (StepsR.cons (n:=3) ?_ (StepsR.cons (n:=4) ?_ (StepsR.cons (n:=5) ?_ (StepsR.cons (n:=6) ?_ (StepsR.cons (n:=7) ?_ (StepsR.cons (n:=8) ?_ (StepsR.cons (n:=9) ?_ (StepsR.cons (n:=10) ?_ (StepsR.cons (n:=11) ?_ (StepsR.cons (n:=12) ?_ (trivial)))))))))))))
       ·
        intro l v wr hn hdep hcl hF K hK;rw[HFD.out] at hF;obtain⟨H0,H1,H2,H3,H4,H5,H6,H7,H8,H9,H10,H11,H12,H13⟩:=hF;simp[Region.binds] at hdep;have HCL:=hide hcl;have HN:=hide hn;clear hcl hn;have HBA:=hide (show Below wr.heap.size wr (wr.alloc (.cells #[] 3)) from (Below.refl _ _).alloc (Nat.le_refl _) _);go_simp
        have hk:=hK.out (.slice (some ⟨wr.heap.size,0,none⟩) 0 0) (wr.alloc (.cells #[] 3)) (by
         rw[HFD.out]
         exact⟨hide ((fun _ _=>⟨wr.heap.size,rfl,H13.out.size,Blk.at_ rfl⟩)),H1,H2,H3,hide ((fun h h7=>own_belowI (H4.out h h7) HBA.out)),H5,hide ((fun h h7=>by obtain⟨g,h1,h2,h3,h4,h5⟩:=H6.out h h7;refine⟨g,h1,h2,h3.below HBA.out h3.lt,fun _ _ he=>?_,h5⟩;have:=h3.lt;have he:Value.slice (some ⟨wr.heap.size,0,none⟩) 0 0=.slice (some ⟨g,0,none⟩) 0 0:=he;injection he with he;injection he with he;injection he with he;omega)),hide ((fun h h11=>own_belowI (H7.out h h11) HBA.out)),H8,H9,H10,hide ((fun h=>own_belowI (H11.out h) HBA.out)),H12,hide (H13.out.trans ((HBA.out).mono H13.out.size))⟩)
        simp only[Act.put,List.setIfInBounds_toArray,List.set_cons_zero,List.set_cons_succ] at hk;exact hk
       ·
        intro l v wr hn hdep hcl hF K hK;rw[HFD.out] at hF;obtain⟨H0,H1,H2,H3,H4,H5,H6,H7,H8,H9,H10,H11,H12,H13⟩:=hF;simp[Region.binds] at hdep;have HCL:=hide hcl;have HN:=hide hn;clear hcl hn;have e12:=H12.out.2 (by cases g:l 12 with | false=>rfl | true=>exact absurd (HCL.out 12 _ rfl g ⟨1,.phase⟩ (by simp) rfl) (by rw[HN.out];decide));go_simp
        have hk:=hK.out (.slice A3 q c3) wr (by
         rw[HFD.out]
         exact⟨H0,hide ((fun _=>rfl)),H2,H3,H4,H5,H6,H7,H8,H9,H10,H11,H12,H13⟩)
        simp only[Act.put,List.setIfInBounds_toArray,List.set_cons_zero,List.set_cons_succ] at hk;simp only[e12] at hk;exact hk
       ·
        intro l v wr hn hdep hcl hF K hK;rw[HFD.out] at hF;obtain⟨H0,H1,H2,H3,H4,H5,H6,H7,H8,H9,H10,H11,H12,H13⟩:=hF;simp[Region.binds] at hdep;have HCL:=hide hcl;have HN:=hide hn;clear hcl hn;go_simp
        have hk:=hK.out (.int .i64 (j:Int)) wr (by
         rw[HFD.out]
         exact⟨H0,H1,hide ((fun _=>rfl)),H3,H4,H5,H6,H7,H8,H9,H10,H11,H12,H13⟩)
        simp only[Act.put,List.setIfInBounds_toArray,List.set_cons_zero,List.set_cons_succ] at hk;exact hk
       ·
        intro l v wr hn hdep hcl hF K hK;rw[HFD.out] at hF;obtain⟨H0,H1,H2,H3,H4,H5,H6,H7,H8,H9,H10,H11,H12,H13⟩:=hF;simp[Region.binds] at hdep;have HCL:=hide hcl;have HN:=hide hn;clear hcl hn;have e1:=H1.out (by simp[hdep]);have e2:=H2.out (by simp[hdep]);have hV1:=HV1.out;go_simp
        have hk:=hK.out (.slice B1 j d1) wr (by
         rw[HFD.out]
         exact⟨H0,H1,H2,hide ((fun _=>rfl)),H4,H5,H6,H7,H8,H9,H10,H11,H12,H13⟩)
        simp only[Act.put,List.setIfInBounds_toArray,List.set_cons_zero,List.set_cons_succ] at hk;simp only[e1,e2] at hk;exact hk
       ·
        intro l v wr hn hdep hcl hF K hK;rw[HFD.out] at hF;obtain⟨H0,H1,H2,H3,H4,H5,H6,H7,H8,H9,H10,H11,H12,H13⟩:=hF;simp[Region.binds] at hdep;have HCL:=hide hcl;have HN:=hide hn;clear hcl hn;have d0:l 0=true:=by simp[hdep]
        have e3:=H3.out (by simp[hdep]);have h40:=HN.out;obtain⟨g0,e0,hg0,hbk⟩:=H0.out d0 h40;refine step_append_any rfl (.tmp 44) (.tmp 47) 26 rfl WW.heap.size 3 i0 _ 1 8 Try.underlying26 hi0 hz0 hz1 hz2 rfl (by omega) (v 0) 0 [] rfl (by rw[e0];exact own_emptyI hbk hg0) _ B1 j d1 (intRow (ll.take j)) (intCell (ll.take j)) (by exact e3) (HR1.out.below H13.out (Nat.le_refl _)) hA1 (by rw[intRow_length,HL1.out,Nat.mul_one]) (fun i j' hi hj=>intRow_at _ i j' (by rw[HL1.out];exact hi) hj) (intRow_one _) (by simp only[maxLen];omega) (by omega) H13.out.size ?_;intro v9 w9 hown9 hg9 hat9;refine hK.out v9 w9 ?_;rw[HFD.out];exact⟨hide ((fun _ h=>absurd h (by simp[updR]))),H1,H2,H3,hide ((fun _ _=>by have h:=hown9;rw[Nat.zero_add] at h;exact h)),H5,hide ((fun h h7=>by obtain⟨g,h1,h2,h3,h4,h5⟩:=H6.out h h7;have hne:g0≠g:=(fun e=>h4 d0 h40 (by rw[e0,e]));refine⟨g,h1,h2,h3.grown hg9 (by rw[e0];simp only[Value.ownBlock];intro e;injection e with e;exact hne e.symm),fun _ h=>absurd h (by simp[updR]),fun _ e=>?_⟩;have e:v9.ownBlock=some g:=e;rcases hat9 with z | z;(rw[z,e0] at e;simp only[Value.ownBlock] at e;injection e with e;exact hne e);(rw[z] at e;injection e with e;have:=h3.lt;omega))),hide ((fun h=>absurd (HCL.out 7 _ rfl h ⟨4,.data⟩ (by simp) rfl) (by rw[HN.out];decide))),H8,H9,H10,hide ((fun h=>absurd (HCL.out 7 _ rfl (HCL.out 11 _ rfl h ⟨7,.data⟩ (by simp) rfl) ⟨4,.data⟩ (by simp) rfl) (by rw[HN.out];decide))),H12,hide ((H13.out.grown hg9 H13.out.size (fun z hz=>by rw[e0] at hz;simp only[Value.ownBlock] at hz;injection hz with hz;omega)))⟩
       ·
        intro l v wr hn hdep hcl hF K hK;rw[HFD.out] at hF;obtain⟨H0,H1,H2,H3,H4,H5,H6,H7,H8,H9,H10,H11,H12,H13⟩:=hF;simp[Region.binds] at hdep;have HCL:=hide hcl;have HN:=hide hn;clear hcl hn;go_simp
        have hk:=hK.out (.int .i64 x) wr (by
         rw[HFD.out]
         exact⟨H0,H1,H2,H3,H4,hide ((fun _=>rfl)),H6,H7,H8,H9,H10,H11,H12,H13⟩)
        simp only[Act.put,List.setIfInBounds_toArray,List.set_cons_zero,List.set_cons_succ] at hk;exact hk
       ·
        intro l v wr hn hdep hcl hF K hK;rw[HFD.out] at hF;obtain⟨H0,H1,H2,H3,H4,H5,H6,H7,H8,H9,H10,H11,H12,H13⟩:=hF;simp[Region.binds] at hdep;have HCL:=hide hcl;have HN:=hide hn;clear hcl hn;have e5:=H5.out (by simp[hdep]);have HBA:=hide (show Below wr.heap.size wr (wr.alloc (.cells #[.int .i64 x] 3)) from (Below.refl _ _).alloc (Nat.le_refl _) _);go_simp
        have hk:=hK.out (.slice (some ⟨wr.heap.size,0,none⟩) 1 1) (wr.alloc (.cells #[.int .i64 x] 3)) (by
         rw[HFD.out]
         exact⟨hide ((fun h h4=>by obtain⟨g,h1,h2,h3⟩:=H0.out h h4;exact⟨g,h1,h2,h3.below HBA.out h3.lt⟩)),H1,H2,H3,hide ((fun h h7=>own_belowI (H4.out h h7) HBA.out)),H5,hide ((fun _ _=>⟨wr.heap.size,rfl,H13.out.size,Blk.at_ rfl,fun h h4 he=>by obtain⟨g,h1,_,h3⟩:=H0.out h h4;have:=h3.lt;rw[show updR v 6 _ 0=v 0 from rfl,h1] at he;injection he with he;injection he with he;injection he with he;omega,fun h e=>by have h7:l 7=false:=(by cases g:l 7 with | false=>rfl | true=>exact absurd (HCL.out 7 _ rfl g ⟨6,.data⟩ (by simp) rfl) (by rw[HN.out];decide));have:=((H4.out h h7).lt _ e).2;omega⟩)),hide ((fun h h11=>own_belowI (H7.out h h11) HBA.out)),H8,H9,H10,hide ((fun h=>own_belowI (H11.out h) HBA.out)),H12,hide (H13.out.trans ((HBA.out).mono H13.out.size))⟩)
        simp only[Act.put,List.setIfInBounds_toArray,List.set_cons_zero,List.set_cons_succ] at hk;simp only[e5] at hk;exact hk
       ·
        intro l v wr hn hdep hcl hF K hK;rw[HFD.out] at hF;obtain⟨H0,H1,H2,H3,H4,H5,H6,H7,H8,H9,H10,H11,H12,H13⟩:=hF;simp[Region.binds] at hdep;have HCL:=hide hcl;have HN:=hide hn;clear hcl hn;have d4:l 4=true:=by simp[hdep]
        have h7:=HN.out;obtain⟨g,e6,hg,hb6,_,_⟩:=H6.out (by simp[hdep]) h7;refine step_append_any rfl (.tmp 48) (.tmp 50) 26 rfl WW.heap.size 3 i0 _ 1 8 Try.underlying26 hi0 hz0 hz1 hz2 rfl (by omega) (v 4) j (intRow (ll.take j)) rfl (H4.out d4 h7) _ (some ⟨g,0,none⟩) 1 1 (intRow [x]) (intCell [x]) (by exact e6) (rd_single (t:=3) hb6) (by simp) (by simp[intRow]) (intRow_at [x]) (intRow_one _) (by simp only[maxLen];omega) (by omega) H13.out.size ?_;intro v9 w9 hown9 hg9 hat9;refine hK.out v9 w9 ?_;rw[HFD.out];exact⟨hide ((fun h h4=>absurd h4 (by rw[show updR l 7 true 4=l 4 from rfl,d4];decide))),H1,H2,H3,hide ((fun _ h=>absurd h (by simp[updR]))),H5,hide ((fun _ h=>absurd h (by simp[updR]))),hide ((fun _ _=>by have h:=hown9;rw[← intRow_append] at h;exact h)),H8,H9,H10,hide ((fun h=>absurd (HCL.out 11 _ rfl h ⟨7,.data⟩ (by simp) rfl) (by rw[HN.out];decide))),H12,hide ((H13.out.grown hg9 H13.out.size (fun z hz=>((H4.out d4 h7).lt z hz).1)))⟩
       ·
        intro l v wr hn hdep hcl hF K hK;rw[HFD.out] at hF;obtain⟨H0,H1,H2,H3,H4,H5,H6,H7,H8,H9,H10,H11,H12,H13⟩:=hF;simp[Region.binds] at hdep;have HCL:=hide hcl;have HN:=hide hn;clear hcl hn;have e12:=H12.out.2 (by cases g:l 12 with | false=>rfl | true=>exact absurd (HCL.out 12 _ rfl g ⟨8,.phase⟩ (by simp) rfl) (by rw[HN.out];decide));go_simp
        have hk:=hK.out (.slice A3 q c3) wr (by
         rw[HFD.out]
         exact⟨H0,H1,H2,H3,H4,H5,H6,H7,hide ((fun _=>rfl)),H9,H10,H11,H12,H13⟩)
        simp only[Act.put,List.setIfInBounds_toArray,List.set_cons_zero,List.set_cons_succ] at hk;simp only[e12] at hk;exact hk
       ·
        intro l v wr hn hdep hcl hF K hK;rw[HFD.out] at hF;obtain⟨H0,H1,H2,H3,H4,H5,H6,H7,H8,H9,H10,H11,H12,H13⟩:=hF;simp[Region.binds] at hdep;have HCL:=hide hcl;have HN:=hide hn;clear hcl hn;go_simp
        have hk:=hK.out (.int .i64 (j:Int)) wr (by
         rw[HFD.out]
         exact⟨H0,H1,H2,H3,H4,H5,H6,H7,H8,hide ((fun _=>rfl)),H10,H11,H12,H13⟩)
        simp only[Act.put,List.setIfInBounds_toArray,List.set_cons_zero,List.set_cons_succ] at hk;exact hk
       ·
        intro l v wr hn hdep hcl hF K hK;rw[HFD.out] at hF;obtain⟨H0,H1,H2,H3,H4,H5,H6,H7,H8,H9,H10,H11,H12,H13⟩:=hF;simp[Region.binds] at hdep;have HCL:=hide hcl;have HN:=hide hn;clear hcl hn;have e8:=H8.out (by simp[hdep]);have e9:=H9.out (by simp[hdep]);have hV2:=HV2.out;go_simp
        have hk:=hK.out (.slice B2 (q-j) d2) wr (by
         rw[HFD.out]
         exact⟨H0,H1,H2,H3,H4,H5,H6,H7,H8,H9,hide ((fun _=>rfl)),H11,H12,H13⟩)
        simp only[Act.put,List.setIfInBounds_toArray,List.set_cons_zero,List.set_cons_succ] at hk;simp only[e8,e9] at hk;exact hk
       ·
        intro l v wr hn hdep hcl hF K hK;rw[HFD.out] at hF;obtain⟨H0,H1,H2,H3,H4,H5,H6,H7,H8,H9,H10,H11,H12,H13⟩:=hF;simp[Region.binds] at hdep;have HCL:=hide hcl;have HN:=hide hn;clear hcl hn;have d7:l 7=true:=by simp[hdep]
        have d4:l 4=true:=HCL.out 7 _ rfl d7 ⟨4,.data⟩ (by simp) rfl;have h11:=HN.out;have e10:=H10.out (by simp[hdep]);refine step_append_any rfl (.tmp 51) (.tmp 54) 26 rfl WW.heap.size 3 i0 _ 1 8 Try.underlying26 hi0 hz0 hz1 hz2 rfl (by omega) (v 7) (j+1) (intRow (ll.take j++[x])) rfl (H7.out d7 h11) _ B2 (q-j) d2 (intRow (ll.drop j)) (intCell (ll.drop j)) (by exact e10) (HR2.out.below H13.out (Nat.le_refl _)) hA2 (by rw[intRow_length,HL2.out,Nat.mul_one]) (fun i j' hi hj=>intRow_at _ i j' (by rw[HL2.out];exact hi) hj) (intRow_one _) (by simp only[maxLen];omega) (by omega) H13.out.size ?_;intro v9 w9 hown9 hg9 hat9;refine hK.out v9 w9 ?_;rw[HFD.out];exact⟨hide ((fun h h4=>absurd h4 (by rw[show updR l 11 true 4=l 4 from rfl,d4];decide))),H1,H2,H3,hide ((fun _ h=>absurd h (by rw[show updR l 11 true 7=l 7 from rfl,d7];decide))),H5,hide ((fun _ h=>absurd h (by rw[show updR l 11 true 7=l 7 from rfl,d7];decide))),hide ((fun _ h=>absurd h (by simp[updR]))),H8,H9,H10,hide ((fun _=>by have h:=hown9;rw[← intRow_append,show j+1+(q-j)=q+1 by omega] at h;exact h)),hide (⟨fun h=>absurd (HCL.out 12 _ rfl h ⟨11,.data⟩ (by simp) rfl) (by rw[HN.out];decide),H12.out.2⟩),hide ((H13.out.grown hg9 H13.out.size (fun z hz=>((H7.out d7 h11).lt z hz).1)))⟩
       ·
        intro l v wr hn hdep hcl hF K hK;rw[HFD.out] at hF;obtain⟨H0,H1,H2,H3,H4,H5,H6,H7,H8,H9,H10,H11,H12,H13⟩:=hF;simp[Region.binds] at hdep;have HCL:=hide hcl;have HN:=hide hn;clear hcl hn;go_simp
        have hk:=hK.out (v 11) wr (by
         rw[HFD.out]
         exact⟨H0,H1,H2,H3,H4,H5,H6,H7,H8,H9,H10,H11,hide (⟨fun _=>rfl,fun h=>absurd h (by simp[updR])⟩),H13⟩)
        simp only[Act.put,List.setIfInBounds_toArray,List.set_cons_zero,List.set_cons_succ] at hk;exact hk
  ·
   obtain rfl:n=k:=by omega
   have hend:lb.take n=lb:=List.take_of_length_le (by rw[HN.out];exact Nat.le_refl _);have HL':=HL.out;rw[hend] at HL';have HE:=hide (show (uniL la lb).length=q by rw[← HL',HQ.out]);rw[HL'] at HOWN;have HBE:=hide ((HHW.out▸HB1.out:Below H w w1).trans HBK.out);go_wp2;refine bodyPost_ret (v:=.slice A3 q c3) (by simp[results,Try.results17,go_sem]) rfl ⟨A3,c3,?_⟩;rw[HE.out,← HHW.out];exact⟨rfl,HOWN.out,HBE.out⟩
end Go.Proofs.Ytkfdhpbnphojoaa
