/- A float as a fraction: between which powers of ten it lies,  -/
import Derived.Test.YthpdlidbaojlbaaGreatDoorQ41
set_option linter.unusedVariables false
set_option linter.unusedSimpArgs false
set_option maxHeartbeats 4000000
open Go.ChangeShapes Go.WideShapes Go.RowKit
namespace Go.Proofs.YthpdlidbaojlbaaGreatDoor
namespace jw
open ks (af ae hlt ah bC alloc_old aG aX aT dp)
theorem Jd.on {pr:Nat→ByteArray} {tx:Int→ByteArray} {B0:Nat} {w w':World} (h:Jd pr tx B0 w) (hb:Below B0 w w'):Jd pr tx B0 w':=⟨aF h.szb hb.size,fun W hw=>h.print W (hb.trans hw),h.short,h.text⟩
theorem A0 {pr:Nat→ByteArray} {tx:Int→ByteArray} {l:List gn} {w w':World} {r:Ending} (h:RwR pr tx l w r w'):∃ (o:Option (List Words)) (v:Value) (es:List EF),nK pr tx none l o∧r=.returned (.tuple #[v,.int .i64 (if o=none then 280 else 0)])∧dI w.heap.size w' v es∧wsE es=o.getD []∧af [] w w':=by
 obtain⟨hk,⟨h1,rfl⟩|⟨Oo,v,es,h1,rfl,h2,h3⟩⟩:=h
 ·exact⟨none,_,[],h1,rfl,dI.nil _ _,rfl,hk⟩
 ·exact⟨some Oo,v,es,h1,by simp,h2,h3,hk⟩
def other:ByteArray:=⟨#[111,116,104,101,114]⟩
def p9 (f:StF):StF:={ f with d:={ f.d with key:=other } }
structure zq (w0:World) (B L:Nat) (v:Value) (fs:List StF) (k:Nat) (X:World):Prop where
 kp:jr.Kept (fun b=>b<B∨L≤b) w0 X
 row:bF ug 7 38 B X v ((fs.take k).map p9++fs.drop k)
 vl:∀ b,v.ownBlock=some b→b<L
 its:∀ f∈fs,(f.d.val.items=[]∧∃ g,f.e.iv=.slice (some g) 0 0)∨∃ xs:List ByteArray,xs.length=f.d.val.items.length∧bF b9 1 9 B X f.e.iv xs∧∀ b,f.e.iv.ownBlock=some b→b<L
theorem ym {fs:List StF} {k:Nat} {f:StF} (h:fs[k]?=some f):((fs.take k).map p9++fs.drop k)[k]?=some f∧(fs.take (k+1)).map p9++fs.drop (k+1)=((fs.take k).map p9++fs.drop k).set k (p9 f):=by
 obtain⟨hl,rfl⟩:=au.1 h;have h1:((fs.take k).map p9).length=k:=by rw[aU,aR];omega
 constructor
 ·rw[bN (by omega),h1,dZ,fS,Nat.add_zero];exact h
 ·rw[rV,aJ (by omega),h1,dZ,eT hl,List.set_cons_zero,fh hl,aZ,aD];rfl
theorem FM {fs:List StF} {k:Nat} (h:k≤fs.length):((fs.take k).map p9++fs.drop k).length=fs.length:=by rw[aM,aU,aR,br];omega
theorem Dy {α:Type} {enc:α→List Value} {k:Nat} (he:∀ x,(enc x).length=k):∀ (l:List α) (i j:Nat) (x y:α) (u:Value),l[i]?=some x→j<k→enc y=(enc x).set j u→(l.flatMap enc).set (i*k+j) u=(l.set i y).flatMap enc
 | [],i,j,x,y,u,h,_,_=>by simp at h
 | z::l,0,j,x,y,u,h,hj,e=>by simp at h;subst h;rw[fO,bD,di,List.set_cons_zero,di,rV,aQ (by rw[he];exact hj),e]
 | z::l,i+1,j,x,y,u,h,hj,e=>by
  have h1:l[i]?=some x:=by simpa using h
  rw[di,List.set_cons_succ,di,rV,aJ (by rw[he,l0];omega),he,show(i+1)*k+j-k=i*k+j by rw[l0];omega,Dy he l i j x y u h1 hj e]
theorem qG.begin {B:Nat} {w1 W:World} {v:Value} {fs:List StF} (h:qG B w1 v fs) (hk:jr.Kept (fun b=>b<w1.heap.size) w1 W):zq W B w1.heap.size v fs 0 W:=by
 refine⟨jr.Kept.refl _ _,?_,fun b hb=>(h.row.lt b hb).2,fun f hf=>?_⟩
 ·have h1:bF ug 7 38 B W v fs:=jr.nX hk h.row (fun b hb=>(h.row.lt b hb).2);simpa using h1
 ·rcases(h.each f hf).i with⟨g,h1,h2⟩|h1
  ·exact .inl ⟨h2,g,h1⟩
  ·exact .inr ⟨_,rfl,jr.nX hk h1 (fun b hb=>(h1.lt b hb).2),fun b hb=>(h1.lt b hb).2⟩
theorem CB (xs:List ByteArray) (q:Nat) (s:ByteArray):(xs.flatMap b9).set q (.string s)=(xs.set q s).flatMap b9:=by rw[DB,DB,List.map_set]
theorem zq.item {w0 X:World} {B L:Nat} {v:Value} {fs:List StF} {k g n c q:Nat} (h:zq w0 B L v fs k X) {f:StF} (hf:f∈fs) {xs:List ByteArray} (ho:bF b9 1 9 B X (.slice (some ⟨g,0,none⟩) n c) xs) (hl:g<L) (s:ByteArray):zq w0 B L v fs k (X.setCell ⟨g,q,none⟩ (.string s)):=by
 have hg:=(ho.lt g rfl).1;refine⟨h.kp.setCell (fun _ hs=>by simp only at hs;omega) _,?_,h.vl,fun f2 hf2=>?_⟩
 ·exact fe h.row (fun e=>h.row.apart ho (by decide) g e rfl) _
 ·rcases h.its f2 hf2 with h1|⟨ys,h1,h2,h3⟩
  ·exact .inl h1
  ·right
   by_cases he:f2.e.iv.ownBlock=some g
   ·obtain⟨a,c2,hv,_,_,_,ha⟩:=h2.form;have hv2:=hv;rw[hv] at he h2
    cases a with
    | none=>simp[Value.ownBlock] at he
    | some a=>
     have ha0:a=⟨g,0,none⟩:=by
      rcases h2.2 with⟨e1,_⟩|⟨g1,OA,jv,e1,_⟩
      ·cases e1
      ·injection e1 with e1 e2 e3
       obtain rfl:=cK e1;simp[Value.ownBlock] at he;rw[he]
     subst ha0;refine⟨ys.set q s,by rw[dO];exact h1,?_,h3⟩;rw[hv2];have h5:=(World.ownsRow.stored h2 q (.string s)).1;unfold bF;rw[dO,←CB];exact h5
   ·exact⟨ys,h1,fe h2 he _,h3⟩
theorem zq.key {w0 X:World} {B L:Nat} {fs:List StF} {k g n c:Nat} {f:StF} (h:zq w0 B L (.slice (some ⟨g,0,none⟩) n c) fs k X) (hf:fs[k]?=some f) (hn:n=fs.length):zq w0 B L (.slice (some ⟨g,0,none⟩) n c) fs (k+1) (X.setCell ⟨g,k*7,none⟩ (.string other)):=by
 have hg:=(h.row.lt g rfl).1;have hl:=h.vl g rfl;have hkl:=(au.1 hf).1;refine⟨h.kp.setCell (fun _ hs=>by simp only at hs;omega) _,?_,h.vl,fun f2 hf2=>?_⟩
 ·obtain⟨e1,e2⟩:=ym hf
  have h5:(X.setCell ⟨g,k*7,none⟩ (.string other)).ownsRow B 38 7 (.slice (some ⟨g,0,none⟩) n c) n ((((fs.take k).map p9++fs.drop k).flatMap ug).set (k*7) (.string other)):=(World.ownsRow.stored (by
   have h6:=h.row;unfold bF at h6;rw[FM (by omega),←hn] at h6
   exact h6) (k*7) (.string other)).1
  have h7:=Dy vF.n ((fs.take k).map p9++fs.drop k) k 0 f (p9 f) (.string other) e1 (by decide) rfl;rw[Nat.add_zero] at h7;rw[h7] at h5;unfold bF;rw[e2,dO,FM (by omega),←hn];exact h5
 ·rcases h.its f2 hf2 with h1|⟨ys,h1,h2,h3⟩
  ·exact .inl h1
  ·exact .inr ⟨ys,h1,fe h2 (fun e=>h.row.apart h2 (by decide) g rfl e) _,h3⟩
set_option maxRecDepth 100000 in
theorem Et (d:cG) (i1 p1 r1 i2 p2 r2:Value) (w:World) (hi1:eh b9 1 w i1 d.items) (hp1:eh gJ 2 w p1 d.bL) (hr1:eh dN 2 w r1 d.bI) (hi2:eh b9 1 w i2 d.items) (hp2:eh gJ 2 w p2 d.bL) (hr2:eh dN 2 w r2 d.bI)
  (hn:d.items.length≤1048576∧d.bL.length≤1048576∧d.bI.length≤1048576):
  Calls Tryz.prog 23 #[.agg #[.int .i64 d.kind,.string d.text,i1,p1,r1],.agg #[.int .i64 d.kind,.string d.text,i2,p2,r2]] w fun r w'=>r=.returned (.bool true)∧af [] w w':=by
 obtain⟨kd,tx,it,ps,rk⟩:=d;simp only at hi1 hp1 hr1 hi2 hp2 hr2 hn ⊢;obtain⟨hn1,hn2,Ll⟩:=hn;obtain⟨ia,ic,rfl,_,_,_,hi1⟩:=hi1.texts;obtain⟨pa,pc,rfl,_,_,_,hp1⟩:=hp1.bL;obtain⟨ra,rc,rfl,_,_,_,hr1⟩:=hr1.lN;obtain⟨ib,id,rfl,_,_,_,hi2⟩:=hi2.texts;obtain⟨pb,pd,rfl,_,_,_,hp2⟩:=hp2.bL;obtain⟨rb,rd,rfl,_,_,_,hr2⟩:=hr2.lN;obtain⟨ni,hni⟩:∃ n,it.length=n:=⟨_,rfl⟩;obtain⟨np,hnp⟩:∃ n,ps.length=n:=⟨_,rfl⟩;obtain⟨nr,hnr⟩:∃ n,rk.length=n:=⟨_,rfl⟩;rw[hni] at hi1 hi2 hn1 ⊢;rw[hnp] at hp1 hp2 hn2 ⊢;rw[hnr] at hr1 hr2 Ll ⊢;have HI1:=ae hi1;have HI2:=ae hi2;have S9:=ae hp1;have jK:=ae hp2;have HR1:=ae hr1;have HR2:=ae hr2;have wS:=ae hni;have Ec:=ae hnp;have zS:=ae hnr;have UM:=fl.kC;obtain⟨w2,hw2⟩:∃ w2,(w.alloc (.cells #[.int .i64 kd,.string tx,.slice ia ni ic,.slice pa np pc,.slice ra nr rc] 36)).alloc (.cells #[.int .i64 kd,.string tx,.slice ib ni id,.slice pb np pd,.slice rb nr rd] 36)=w2:=⟨_,rfl⟩;have hk2:af [] w w2:=by rw[←hw2];exact((af.refl _ w).alloc _).alloc _
 have hb1:w2.heap[w.heap.size]?=some (.cells #[.int .i64 kd,.string tx,.slice ia ni ic,.slice pa np pc,.slice ra nr rc] 36 (0,0)):=by rw[←hw2];exact alloc_old _ (aG w _)
 have hb2:w2.heap[w.heap.size+1]?=some (.cells #[.int .i64 kd,.string tx,.slice ib ni id,.slice pb np pd,.slice rb nr rd] 36 (0,0)):=by rw[←hw2];have:=aG (w.alloc (.cells #[.int .i64 kd,.string tx,.slice ia ni ic,.slice pa np pc,.slice ra nr rc] 36)) (.cells #[.int .i64 kd,.string tx,.slice ib ni id,.slice pb np pd,.slice rb nr rd] 36);simpa using this
 have HC:=ae (show ∀ X,af [] w2 X→(X.cell? ⟨w.heap.size,2,none⟩=some (.slice ia ni ic)∧X.cell? ⟨w.heap.size,3,none⟩=some (.slice pa np pc)∧X.cell? ⟨w.heap.size,4,none⟩=some (.slice ra nr rc))∧X.cell? ⟨w.heap.size+1,2,none⟩=some (.slice ib ni id)∧X.cell? ⟨w.heap.size+1,3,none⟩=some (.slice pb np pd)∧X.cell? ⟨w.heap.size+1,4,none⟩=some (.slice rb nr rd) from fun X hk=>by
  have h1:=hk.get hb1 (by simp);have h2:=hk.get hb2 (by simp)
  exact⟨⟨by rw[ah h1];rfl,by rw[ah h1];rfl,by rw[ah h1];rfl⟩,by rw[ah h2];rfl,by rw[ah h2];rfl,by rw[ah h2];rfl⟩)
 have c0:w2.cell? ⟨w.heap.size,0,none⟩=some (.int .i64 kd):=by rw[ah hb1];rfl
 have c1:w2.cell? ⟨w.heap.size,1,none⟩=some (.string tx):=by rw[ah hb1];rfl
 have e0:w2.cell? ⟨w.heap.size+1,0,none⟩=some (.int .i64 kd):=by rw[ah hb2];rfl
 have e1:w2.cell? ⟨w.heap.size+1,1,none⟩=some (.string tx):=by rw[ah hb2];rfl
 obtain⟨⟨c2,c3,c4⟩,e2,e3,e4⟩:=HC.out w2 (af.refl _ _);have kM:=ae hk2;clear hi1 hi2 hp1 hp2 hr1 hr2 hni hnp hnr hk2 hb1 hb2;go_enter Tryz.func23,Tryz.ntmps23
 go_wp2_with fail
 go_loopw [52,5] (fun i _ X=>∃ (k:Nat),i=.int .i64 (k:Int)∧k≤ni∧Hid (af [] w2 X)) (fun i _ _=>ni-(intOf i).toNat)
 case atStart=>exact⟨0,rfl,bz _,ae (af.refl _ _)⟩
 case round=>
  obtain⟨k,rfl,hk,HV⟩:=hrel;clear c0 c1 c2 c3 c4 e0 e1 e2 e3 e4;obtain⟨⟨c2,c3,c4⟩,e2,e3,e4⟩:=HC.out wr HV.out
  by_cases hlt:k<ni
  ·obtain⟨x,hx⟩:∃ x,it[k]?=some x:=⟨_,ag (by rw[wS.out];exact hlt)⟩;obtain⟨g1,o1,rfl,hc1⟩:=HI1.out (by omega);obtain⟨g2,o2,rfl,hc2⟩:=HI2.out (by omega);have a1:=ak (kM.out.trans HV.out) (hc1 k x hx);have a2:=ak (kM.out.trans HV.out) (hc2 k x hx);have hkn:(k:Int)<(ni:Int):=by omega
   clear hx hc1 hc2;go_wp2_with fail
   go_quiet (fail)
   go_wp2_with fail
   go_roundw
   case rel=>exact⟨k+1,by go_num,by omega,ae (HV.out.drewN _)⟩
   case measure=>simp[intOf];omega
  ·obtain rfl:k=ni:=by omega
   go_wp2_with fail
   go_loopw [70,6] (fun i _ X=>∃ (k:Nat),i=.int .i64 (k:Int)∧k≤np∧Hid (af [] w2 X)) (fun i _ _=>np-(intOf i).toNat)
   case atStart=>exact⟨0,rfl,bz _,HV⟩
   case round=>
    clear c2 c3 c4 e2 e3 e4 HV;obtain⟨m,rfl,hm,HV⟩:=hrel;obtain⟨⟨c2,c3,c4⟩,e2,e3,e4⟩:=HC.out wr HV.out
    by_cases hlt2:m<np
    ·obtain⟨x,hx⟩:∃ x,ps[m]?=some x:=⟨_,ag (by rw[Ec.out];exact hlt2)⟩;obtain⟨g1,o1,rfl,hc1⟩:=S9.out (by omega);obtain⟨g2,o2,rfl,hc2⟩:=jK.out (by omega);have a1:=ak (kM.out.trans HV.out) (hc1 m x hx).1;have a2:=ak (kM.out.trans HV.out) (hc1 m x hx).2;have a3:=ak (kM.out.trans HV.out) (hc2 m x hx).1;have a4:=ak (kM.out.trans HV.out) (hc2 m x hx).2;have hkn:(m:Int)<(np:Int):=by omega
     obtain⟨x1,x2⟩:=x;simp only at a1 a2 a3 a4;clear hx hc1 hc2;go_wp2_with fail
     go_quiet (fail)
     go_wp2_with fail
     go_roundw
     case rel=>exact⟨m+1,by go_num,by omega,ae (HV.out.drewN _)⟩
     case measure=>simp[intOf];omega
    ·obtain rfl:m=np:=by omega
     go_wp2_with fail
     go_loopw [88,7,8,9] (fun i _ _ _ X=>∃ (k:Nat),i=.int .i64 (k:Int)∧k≤nr∧Hid (af [] w2 X)) (fun i _ _ _ _=>nr-(intOf i).toNat)
     case atStart=>exact⟨0,rfl,bz _,HV⟩
     case round=>
      clear c2 c3 c4 e2 e3 e4 HV;obtain⟨b,rfl,hb,HV⟩:=hrel;obtain⟨⟨c2,c3,c4⟩,e2,e3,e4⟩:=HC.out wr HV.out
      by_cases hlt3:b<nr
      ·obtain⟨x,hx⟩:∃ x,rk[b]?=some x:=⟨_,ag (by rw[zS.out];exact hlt3)⟩;obtain⟨g1,o1,rfl,hc1⟩:=HR1.out (by omega);obtain⟨g2,o2,rfl,hc2⟩:=HR2.out (by omega);have a1:=ak (kM.out.trans HV.out) (hc1 b x hx).1;have a2:=ak (kM.out.trans HV.out) (hc1 b x hx).2;have a3:=ak (kM.out.trans HV.out) (hc2 b x hx).1;have a4:=ak (kM.out.trans HV.out) (hc2 b x hx).2;have hkn:(b:Int)<(nr:Int):=by omega
       obtain⟨x1,x2⟩:=x;simp only at a1 a2 a3 a4;clear hx hc1 hc2;go_wp2_with fail
       go_quiet (fail)
       go_wp2_with fail
       go_quiet (fail)
       go_wp2_with fail
       go_roundw
       case rel=>exact⟨b+1,by go_num,by omega,ae (HV.out.drewN _)⟩
       case measure=>simp[intOf];omega
      ·obtain rfl:b=nr:=by omega
       go_wp2_with fail
       go_ret;exact⟨rfl,kM.out.trans HV.out⟩
set_option maxRecDepth 100000 in
theorem CE (v1 v2:Value) (l1 l2:List StE) (w:World) (h1:Mi w v1 l1) (h2:Mi w v2 l2) (hd:l1.map (fun e=>e.d)=l2.map (fun e=>e.d)) (hn:l1.length≤1048576)
  (hm:∀ e∈l1,e.d.val.items.length≤1048576∧e.d.val.bL.length≤1048576∧e.d.val.bI.length≤1048576):
  Calls Tryz.prog 8 #[v1,v2] w fun r w'=>r=.returned (.bool true)∧af [] w w':=by
 obtain⟨a1,k1,rfl,_,_,hc1⟩:=h1.form;obtain⟨a2,k2,rfl,_,_,hc2⟩:=h2.form;have hl:l2.length=l1.length:=by have:=congrArg List.length hd;simpa using this.symm
 obtain⟨n,hnn⟩:∃ n,l1.length=n:=⟨_,rfl⟩;rw[hl] at hc2 ⊢;rw[hnn] at hn hl hc1 hc2 ⊢;have H1:=ae h1;have H2:=ae h2;have MH:=ae hc1;have FI:=ae hc2;have HD:=ae hd;have HN:=ae hnn;have HL:=ae hl;have HM:=ae hm;clear h1 h2 hc1 hc2 hd hnn hl hm;go_enter Tryz.func8,Tryz.ntmps8
 go_wp2_with fail
 go_loopw [13,5] (fun i _ X=>∃ (k:Nat),i=.int .i64 (k:Int)∧k≤n∧Hid (af [] w X)) (fun i _ _=>n-(intOf i).toNat)
 case atStart=>exact⟨0,rfl,bz _,ae (af.refl _ _)⟩
 case round=>
  obtain⟨k,rfl,hk,HV⟩:=hrel
  by_cases hlt:k<n
  ·obtain⟨e1,he1⟩:∃ x,l1[k]?=some x:=⟨_,ag (by rw[HN.out];exact hlt)⟩;obtain⟨e2,he2⟩:∃ x,l2[k]?=some x:=⟨_,ag (by rw[HL.out];exact hlt)⟩
   have hde:e1.d=e2.d:=by have h3:=congrArg (fun l=>l[k]?) HD.out;simp only[bK,he1,he2,Option.map_some,fZ] at h3;exact h3
   obtain⟨g1,o1,rfl,hc1⟩:=MH.out (by omega);obtain⟨g2,o2,rfl,hc2⟩:=FI.out (by omega);have hm1:=aB he1;have hm2:=aB he2;have hx:∀ (j:Nat) (u:Value),(pL e1)[j]?=some u→wr.cell? ⟨g1,o1+k*7+j,none⟩=some u:=fun j u hu=>ak HV.out (hc1 k e1 he1 j u hu)
   have hy:∀ (j:Nat) (u:Value),(pL e2)[j]?=some u→wr.cell? ⟨g2,o2+k*7+j,none⟩=some u:=fun j u hu=>ak HV.out (hc2 k e2 he2 j u hu)
   obtain⟨r1,r2,r3⟩:=H1.out.rows e1 hm1;obtain⟨s1,s2,s3⟩:=H2.out.rows e2 hm2;have hlen:=HM.out e1 hm1;obtain⟨⟨key,val,dl⟩,iv,pv,rv⟩:=e1;obtain⟨d2,iv2,pv2,Z5⟩:=e2;subst hde;simp only at r1 r2 r3 s1 s2 s3 hlen;have Vv:=ae (Et val iv pv rv iv2 pv2 Z5 wr.drew (r1.aN HV.out.drew) (r2.aN HV.out.drew) (r3.aN HV.out.drew) (s1.aN HV.out.drew) (s2.aN HV.out.drew) (s3.aN HV.out.drew) hlen);have x0:=hx 0 _ rfl;have x1:=hx 1 _ rfl;have x2:=hx 2 _ rfl;have x3:=hx 3 _ rfl;have x4:=hx 4 _ rfl;have x5:=hx 5 _ rfl;have x6:=hx 6 _ rfl;have y0:=hy 0 _ rfl;have y1:=hy 1 _ rfl;have y2:=hy 2 _ rfl;have y3:=hy 3 _ rfl;have y4:=hy 4 _ rfl;have y5:=hy 5 _ rfl;have y6:=hy 6 _ rfl;simp only[Nat.add_zero] at x0 y0 x1 x2 x3 x4 x5 x6 y1 y2 y3 y4 y5 y6;obtain⟨ia,ic,rfl,_⟩:=r1;obtain⟨pa,pc,rfl,_⟩:=r2;obtain⟨ra,rc,rfl,_⟩:=r3;obtain⟨ib,id,rfl,_⟩:=s1;obtain⟨pb,pd,rfl,_⟩:=s2;obtain⟨rb,rd,rfl,_⟩:=s3;have hkn:(k:Int)<(n:Int):=by omega
   clear he1 he2 hc1 hc2 hm1 hm2 hx hy hlen;go_wp2_with fail
   go_still_tail 35,(by kernel_rfl)
   change wpList _ _ _ _ _ wr.drew
   go_wp2_with fail
   refine Vv.out.mono ?_;rintro r w5 ⟨rfl,hk5⟩;have K5:=ae (HV.out.drew.trans hk5);clear hk5 x0 x1 x2 x3 x4 x5 x6 y0 y1 y2 y3 y4 y5 y6;go_wp2_with fail
   go_roundw
   case rel=>exact⟨k+1,by go_num,by omega,K5⟩
   case measure=>simp[intOf];omega
  ·obtain rfl:k=n:=by omega
   go_wp2_with fail
   go_ret;exact⟨rfl,HV.out⟩
structure EfW (B L:Nat) (v:Value) (ll:List Words) (X:World):Prop where
 o:jr.I6 X B L v ll
theorem EfW.aN {B L:Nat} {v:Value} {ll:List Words} {X X':World} (h:EfW B L v ll X) (hk:af [] X X'):EfW B L v ll X':=⟨jr.Af h.o (jr.uc hk) (fun _ _ _=>by simp)⟩
theorem EfW.kept {B L B2 L2:Nat} {v:Value} {ll:List Words} {X X':World} (h:EfW B L v ll X) (hk:jr.Kept (fun b=>b<B2∨L2≤b) X X') (ha:L≤B2∨L2≤B):EfW B L v ll X':=⟨jr.Af h.o hk (fun b h1 h2=>by omega)⟩
theorem yN {a b c:World} {B L:Nat} (h:af [] a b) (k:jr.Kept (fun k=>k<B∨L≤k) b c) (hB:a.heap.size≤B):af [] a c:=⟨k.os.trans h.os,k.tape.trans h.tape,k.output.trans h.output,aF h.size k.size,fun i hi hn=>(k.block i (aP hi h.size) (.inl (by omega))).trans (h.block i hi hn)⟩
theorem zD {l:List VE} (hb:jc (l.map (fun e=>eG e.d))≤1048576) {e:VE} (he:e∈l):e.d.items.length≤1048576∧e.d.bL.length≤1048576∧e.d.lN.length≤1048576:=by have h:=(jw.u9 hb (aV.2 ⟨e,he,rfl⟩:eG e.d∈_)).1;have h3:=h.mN;have h4:=tB e.d;simp only[eG] at h3;exact⟨h.lO,h.mO,by omega⟩
theorem JZ {d:Ca} (h:∀ x∈d.bits,x<18446744073709551616):∀ x∈kX d,x.2<18446744073709551616:=by
 intro x hx;unfold kX at hx;obtain⟨i,_,rfl⟩:=aV.1 hx;unfold wv;simp only[az]
 cases hb:d.bits[i]? with
 | none=>simp
 | some b=>simpa using h b (aB hb)
set_option maxRecDepth 100000 in
theorem WJ (pr:Nat→ByteArray) (tx:Int→ByteArray) (l:List VE) (v0:Value) (w:World) (wK:uq pr tx w.heap.size w) (hdl:Jd pr tx w.heap.size w) (h:AH w v0 l) (ho:∀ e∈l,DW e.d∧e.d.bits.length≤1048576) (hb:jc (l.map (fun e=>eG e.d))≤1048576):
  Calls Tryz.prog 3 #[v0] w fun r w'=>r=.returned (.bool true)∧af [] w w':=by
 have rQ:=ae (fun(X:World) (hk:af [] w X)=>Y5 l v0 X (h.aN hk) ho hb)
 have hfl:∀ fs:List StF,fs.map (fun f=>f.d)=l.map (fun e=>eG e.d)→(jc ((fs.map StF.e).map (fun e=>e.d))≤1048576∧∀ e∈fs.map StF.e,(∀ x∈e.d.val.bI,x.2<18446744073709551616)∧(-9223372036854775808≤e.d.dl∧e.d.dl≤9223372036854775807)∧e.d.val.items.length≤1048576∧e.d.val.bL.length≤1048576∧e.d.val.bI.length≤1048576)∧(fs.map StF.e).map (fun e=>e.d)=l.map (fun e=>eG e.d):=by
  intro fs hfs;have e0:(fs.map StF.e).map (fun e=>e.d)=l.map (fun e=>eG e.d):=by rw[kG,←hfs];rfl
  refine⟨⟨by rw[e0];exact hb,fun e he=>?_⟩,e0⟩;have hm:e.d∈l.map (fun e=>eG e.d):=by rw[←e0];exact aV.2 ⟨e,he,rfl⟩
  obtain⟨x,hx,hxd⟩:=aV.1 hm;have h1:=(ho x hx).1;have h2:=zD hb hx;rw[←hxd];have h3:=tB x.d;exact⟨JZ h1.bits,h1.dl,h2.1,h2.2.1,by simp only[eG];omega⟩
 have qO:=ae hfl;have SY:=ae (show ∀ x∈l.map (fun e=>eG e.d),jz x.val from fun x hx=>(jw.u9 hb hx).1);have qM:=ae wK;have VS:=ae hdl;have MY:=ae hb
 have hll:l.length≤1048576:=by have h1:=tR (l.map (fun e=>eG e.d));rw[aU] at h1;omega
 have Mz:=ae hll;clear h ho hb hfl wK hdl hll;go_enter Tryz.func3,Tryz.ntmps3
 go_wp2_with fail
 refine(rQ.out w (af.refl _ _)).mono ?_;rintro r w1 ⟨v1,f1,rfl,hs1,hd1,hk1⟩;have D9:=ae hs1;have zv:=ae (qO.out f1 hd1);have HD1:=ae hd1;have K1:=ae hk1;clear hs1 hd1 hk1;go_wp2_with fail
 refine(rQ.out w1 K1.out).mono ?_;rintro r w2 ⟨v2,f2,rfl,hs2,hd2,hk2⟩;have HS2:=ae hs2;have Ci:=ae (qO.out f2 hd2);have K2:=ae hk2;clear hs2 hd2 hk2;go_wp2_with fail
 refine(Ew pr tx w.heap.size v2 (f2.map StF.e) w2 (VS.out.on ((K1.out.trans K2.out).ep (aq _) (by simp))) HS2.out.sto Ci.out.1.1 (fun e he=>(Ci.out.1.2 e he).1) (fun e he=>(Ci.out.1.2 e he).2.1)).mono ?_;rintro r w3 hr3;obtain⟨o,vw,ew,hro,rfl,hew,hwo,hk3⟩:=A0 hr3;rw[Ci.out.2] at hro;have HRO:=ae hro;have K3:=ae hk3;have VQ:=ae (show EfW w2.heap.size w3.heap.size vw (o.getD []) w3 from⟨by rw[←hwo];exact jr.wN hew⟩);obtain⟨cd,hcd⟩:∃ c:Int,(if o=none then (280:Int) else 0)=c:=⟨_,rfl⟩;rw[hcd];have TI:=ae hcd;obtain⟨XM,N4⟩:=Hp hro SY.out;have hsm:(o.getD []).length≤2097152:=by have:=MY.out;omega
 obtain⟨ll,hll⟩:∃ ll,o.getD []=ll:=⟨_,rfl⟩;rw[hll] at VQ hsm N4;have PS:=ae hll;have pV:=ae hsm;have Zn:=ae (show ∀ x∈ll,x.length≤9223372036854775806 from fun x hx=>by have:=N4 x hx;omega);have HSX:=ae (show ∀ x∈ll,x.length≤16777216 from fun x hx=>by have:=N4 x hx;omega);clear hr3 hro hew hwo hk3 hcd XM N4 hsm hll;go_wp2_with fail
 refine(CI pr tx w.heap.size v1 (f1.map StF.e) w3 (qM.out.on (((K1.out.trans K2.out).trans K3.out).ep (aq _) (by simp))) (D9.out.aN (K2.out.trans K3.out)).sto zv.out.1.1 (fun e he=>(zv.out.1.2 e he).1) (fun e he=>(zv.out.1.2 e he).2.1)).mono ?_;rintro r w4 hr4;obtain⟨o2,va,ea,Fe,rfl,UN,hao,hk4⟩:=A0 hr4;rw[zv.out.2] at Fe;obtain rfl:o=o2:=HRO.out.one Fe;rw[TI.out];have K4:=ae hk4;have O8:=ae (show EfW w3.heap.size w4.heap.size va ll w4 from⟨by rw[←PS.out,←hao];exact jr.wN UN⟩);clear hr4 Fe UN hao hk4;go_wp2_with fail
 refine(CI pr tx w.heap.size v1 (f1.map StF.e) w4 (qM.out.on ((((K1.out.trans K2.out).trans K3.out).trans K4.out).ep (aq _) (by simp))) (D9.out.aN ((K2.out.trans K3.out).trans K4.out)).sto zv.out.1.1 (fun e he=>(zv.out.1.2 e he).1) (fun e he=>(zv.out.1.2 e he).2.1)).mono ?_;rintro r w5 hr5;obtain⟨o2,vb,eb,Fe,rfl,PB,vC,hk5⟩:=A0 hr5;rw[zv.out.2] at Fe;obtain rfl:o=o2:=HRO.out.one Fe;rw[TI.out];have K5:=ae hk5;have Tf:=ae (show EfW w4.heap.size w5.heap.size vb ll w5 from⟨by rw[←PS.out,←vC];exact jr.wN PB⟩);clear hr5 Fe PB vC hk5;obtain⟨aw,nw,cw,rfl⟩:∃ a n c,vw=.slice a n c:=by obtain⟨_,_,e,_⟩:=jr.lK VQ.out.o;exact⟨_,_,_,e⟩
 obtain⟨aa,na,ca,rfl⟩:∃ a n c,va=.slice a n c:=by obtain⟨_,_,e,_⟩:=jr.lK O8.out.o;exact⟨_,_,_,e⟩
 obtain⟨ab,nb,cb,rfl⟩:∃ a n c,vb=.slice a n c:=by obtain⟨_,_,e,_⟩:=jr.lK Tf.out.o;exact⟨_,_,_,e⟩
 have S0:=ae (fun(X:World) (hk:af [] w5 X)=>jr.JN ll (.slice aa na ca) (.slice aw nw cw) X (jr.lK (O8.out.aN (K5.out.trans hk)).o) (jr.lK (VQ.out.aN ((K4.out.trans K5.out).trans hk)).o) (aF pV.out (by decide)) Zn.out);have SZ:=ae (fun(X:World) (hk:af [] w5 X)=>jr.JN ll (.slice ab nb cb) (.slice aw nw cw) X (jr.lK (Tf.out.aN hk).o) (jr.lK (VQ.out.aN ((K4.out.trans K5.out).trans hk)).o) (aF pV.out (by decide)) Zn.out);go_wp2_with fail
 refine(S0.out w5 (af.refl _ _)).mono ?_;rintro r w6 ⟨rfl,n6,rfl⟩;go_wp2_with fail
 refine(SZ.out (w5.drewN n6) ((af.refl _ _).drewN _)).mono ?_;rintro r w6 ⟨rfl,n7,rfl⟩;obtain⟨w6,tU⟩:∃ w6,w6=(w5.drewN n6).drewN n7:=⟨_,rfl⟩;have K6:=ae (show af [] w5 w6 by rw[tU];exact((af.refl _ _).drewN _).drewN _);rw[←tU];clear tU;have KW6:=ae (((((K1.out.trans K2.out).trans K3.out).trans K4.out).trans K5.out).trans K6.out);go_wp2_with fail
 refine(rQ.out w6 KW6.out).mono ?_;rintro r w7 ⟨v3,f3,rfl,hs3,hd3,mi⟩;have HS3:=ae hs3;have HF3:=ae (qO.out f3 hd3);have K7:=ae mi;have K17:=ae (((((K2.out.trans K3.out).trans K4.out).trans K5.out).trans K6.out).trans mi);clear hs3 hd3 mi;have RY:f1.length=l.length:=by have:=congrArg List.length HD1.out;simpa using this
 have ZP:=ae RY;have Mx:=ae (CE v1 v3 (f1.map StF.e) (f3.map StF.e) w7 (D9.out.aN K17.out).sto HS3.out.sto (zv.out.2.trans HF3.out.2.symm) (by rw[aU,ZP.out];exact Mz.out) (fun e he=>(zv.out.1.2 e he).2.2));obtain⟨av,cv,hv1,_,hcv,_,Yu⟩:=D9.out.row.form;obtain⟨n1,hn1⟩:∃ n1,f1.length=n1:=⟨_,rfl⟩;rw[hn1] at hv1 Yu RY;have abV:n1≤1048576:=by have:=Mz.out;omega
 have Ed:=ae hn1;have HAV:=ae Yu;subst hv1;clear hn1 Yu RY hcv;obtain⟨a3,c3,hv3⟩:∃ a c,v3=.slice a f3.length c:=by obtain⟨_,_,e,_⟩:=HS3.out.row.form;exact⟨_,_,e⟩
 subst hv3;go_wp2_with fail
 refine Mx.out.mono ?_;rintro r w8 ⟨rfl,zy⟩;have K8:=ae zy;have Vn:=ae ((K6.out.trans K7.out).trans zy);clear zy;have KW8:=ae ((KW6.out.trans K7.out).trans K8.out);have Vv:=ae (jr.Qg ll w3.heap.size w4.heap.size (.slice aa na ca) w8 (O8.out.aN (K5.out.trans Vn.out)).o (aF K4.out.size (K5.out.trans Vn.out).size) (K5.out.trans Vn.out).size (aF pV.out (by decide)) HSX.out);go_wp2_with fail
 refine Vv.out.mono ?_;rintro r w9 ⟨rfl,RU⟩;have K9:=ae RU;have AM:Hid (zq w9 w.heap.size w1.heap.size (.slice av n1 cv) f1 0 w9):=ae (D9.out.begin ((jr.uc (K17.out.trans K8.out)).step RU (fun k hk hs=>.inl (by have:=(K2.out.trans K3.out).size;omega))|>.mono (fun k hk hs=>by simp)));clear RU;go_wp2_with fail
 go_loopw [56,10,11] (fun i _ _ X=>∃ (k:Nat),i=.int .i64 (k:Int)∧k≤n1∧Hid (zq w9 w.heap.size w1.heap.size (.slice av n1 cv) f1 k X)) (fun i _ _ _=>n1-(intOf i).toNat)
 case atStart=>exact⟨0,rfl,bz _,AM⟩
 case round=>
  obtain⟨k,rfl,hk,HV⟩:=hrel
  by_cases hlt:k<n1
  ·obtain⟨f,hf⟩:∃ f,f1[k]?=some f:=⟨_,ag (by rw[Ed.out];exact hlt)⟩;obtain⟨gv,rfl⟩:=HAV.out (by omega);have hfm:=aB hf;have HF:=ae hf;have HFM:=ae hfm
   have hcell:∀ X,zq w9 w.heap.size w1.heap.size (.slice (some ⟨gv,0,none⟩) n1 cv) f1 k X→X.cell? ⟨gv,k*7+3,none⟩=some (.slice f.ia f.d.val.items.length f.ic)∧X.cell? ⟨gv,k*7,none⟩=some (.string f.d.key)∧X.frozen? ⟨gv,k*7,none⟩=false:=fun X hX=>⟨hX.row.cell vF.n (ym HF.out).1 (j:=3) rfl,hX.row.cell vF.n (ym HF.out).1 (j:=0) rfl,hX.row.frozen _⟩
   have Pa:=ae hcell;obtain⟨m,hm⟩:∃ m,f.d.val.items.length=m:=⟨_,rfl⟩
   have hmb:m≤1048576:=by have h1:=(zv.out.1.2 f.e (aV.2 ⟨f,hfm,rfl⟩)).2.2.1;rw[←hm];exact h1
   have HM:=ae hm;have hkn:(k:Int)<(n1:Int):=by omega
   rw[hm] at Pa;obtain⟨d0,d1,d2⟩:=Pa.out wr HV.out;clear hf hfm hcell hm;go_wp2_with fail
   go_loopw [66,11] (fun i _ X=>∃ (q:Nat),i=.int .i64 (q:Int)∧q≤m∧Hid (zq w9 w.heap.size w1.heap.size (.slice (some ⟨gv,0,none⟩) n1 cv) f1 k X)) (fun i _ _=>m-(intOf i).toNat)
   case atStart=>exact⟨0,rfl,bz _,HV⟩
   case round=>
    clear d0 d1 d2 HV;obtain⟨q,rfl,hq,HV⟩:=hrel;obtain⟨d0,d1,d2⟩:=Pa.out wr HV.out
    by_cases hlq:q<m
    ·obtain⟨gi,xs,hia,hxs,hown,hgl⟩:∃ gi xs,f.ia=some ⟨gi,0,none⟩∧xs.length=m∧bF b9 1 9 w.heap.size wr (.slice (some ⟨gi,0,none⟩) m f.ic) xs∧gi<w1.heap.size:=by
      rcases HV.out.its f HFM.out with⟨h1,_⟩|⟨xs,h1,h2,h3⟩
      ·have:=HM.out;rw[h1] at this;simp at this;omega
      ·obtain⟨a,c,e,_,_,_,ha⟩:=h2.form;obtain⟨gi,rfl⟩:=ha (by rw[h1,HM.out];omega);simp only[StF.e] at e h2 h3
       injection e with e1 e2 e3
       rw[e1,HM.out] at h2;exact⟨gi,xs,e1,by rw[h1,HM.out],h2,h3 gi (by rw[e1];rfl)⟩
     have HOWN:=ae hown;have zu:=ae hgl;have hxq:=hown.cell dR.n (ag (show q<xs.length by omega)) (j:=0) (u:=.string xs[q]) rfl;have hfz:=hown.frozen q;rw[hia] at d0;rw[bB,Nat.add_zero] at hxq;obtain⟨s,hs⟩:∃ s,xs[q]=s:=⟨_,rfl⟩;rw[hs] at hxq;have hqm:(q:Int)<(m:Int):=by omega
     have pX:=ae (HV.out.item (q:=q) HFM.out hown hgl other);clear hown hgl hs hia;go_wp2_with fail
     go_roundw
     case rel=>exact⟨q+1,by go_num,by omega,pX⟩
     case measure=>simp[intOf];omega
    ·obtain rfl:q=m:=by omega
     have pX:=ae (HV.out.key HF.out Ed.out.symm);go_wp2_with fail
     go_roundw
     case rel=>exact⟨k+1,by go_num,by omega,pX⟩
     case measure=>simp[intOf];omega
  ·obtain rfl:k=n1:=by omega
   have HSB:=ae (jr.JN ll (.slice ab nb cb) (.slice aw nw cw) wr
    (jr.lK (((Tf.out.aN Vn.out).kept K9.out (.inr (aq _))).kept HV.out.kp (.inr (by have:=((K2.out.trans K3.out).trans K4.out).size;omega))).o)
    (jr.lK (((VQ.out.aN ((K4.out.trans K5.out).trans Vn.out)).kept K9.out (.inl (aq _))).kept HV.out.kp (.inr K2.out.size)).o)
    (aF pV.out (by decide)) Zn.out)
   have O7:=ae (yN (yN KW8.out K9.out (((K1.out.trans K2.out).trans K3.out).size)) HV.out.kp (aq _));go_wp2_with fail
   refine HSB.out.mono ?_;rintro r Jt ⟨rfl,n10,rfl⟩;go_wp2_with fail
   go_ret;exact⟨rfl,O7.out.drewN _⟩
end jw
namespace fl
structure vY (u a b:Nat):Prop where
 pa:0<a
 pb:0<b
 ea:a*2 ^ K74=V u*b
theorem vY.sc {u a b:Nat} (h:vY u a b) (p:Int) (j:Nat):∃ X Y,0<X∧0<Y∧a*10 ^ (-p).toNat*10 ^ j*X=V u*cC (p-j)*Y∧∀ D,D*(b*10 ^ p.toNat)*X=cN D (p-j)*Y:=by
 refine⟨2 ^ K74*10 ^ (p-j).toNat,b*10 ^ p.toNat,df (bf (by decide)) (bf (by decide)),df h.pb (bf (by decide)),?_,fun D=>?_⟩
 ·rw[py];have e1:a*10 ^ (-p).toNat*10 ^ j*(2 ^ K74*10 ^ (p-j).toNat)=a*2 ^ K74*(10 ^ (-p).toNat*10 ^ j*10 ^ (p-j).toNat):=by simp only[aA,aK,bH]
  have e2:V u*10 ^ (-(p-j)).toNat*(b*10 ^ p.toNat)=V u*b*(10 ^ (-(p-j)).toNat*10 ^ p.toNat):=by simp only[aA,aK,bH]
  have e3:(-p).toNat+j+(p-j).toNat=(-(p-j)).toNat+p.toNat:=by omega
  rw[e1,e2,h.ea,←aY,←aY,←aY,e3]
 ·rw[jR];simp only[aA,aK,bH]
theorem vY.lt {u a b:Nat} (h:vY u a b) (p:Int) (j c D:Nat):
  (c*(a*10 ^ (-p).toNat*10 ^ j)<D*(b*10 ^ p.toNat)↔c*(V u*cC (p-j))<cN D (p-j))∧(D*(b*10 ^ p.toNat)<c*(a*10 ^ (-p).toNat*10 ^ j)↔cN D (p-j)<c*(V u*cC (p-j))):=by
 obtain⟨X,Y,hX,hY,h1,h2⟩:=h.sc p j;have h3:=h2 D;have h4:c*(a*10 ^ (-p).toNat*10 ^ j)*X=c*(V u*cC (p-j))*Y:=by rw[aA,h1,←aA]
 exact⟨by rw[mB hX,h4,h3,←mB hY],by rw[mB hX,h4,h3,←mB hY]⟩
def bel (a b:Nat) (p:Int):Prop:=a*10 ^ (-p).toNat<b*10 ^ p.toNat
theorem BX {u a b:Nat} (h:vY u a b) (p:Int):bel a b p↔V u*cC p<cN 1 p:=by have:=(h.lt p 0 1 1).1;rw[show p-((0:Nat):Int)=p by omega] at this;unfold bel;simpa using this
def DX:Nat:=400
theorem vS:DX=400:=rfl
def GV:Nat:=2098
theorem Mq:GV=2098:=rfl
theorem BD:V cD<10 ^ DX*2 ^ K74:=by decide +kernel
theorem FP:2 ^ K74<10 ^ DX:=by decide +kernel
theorem Uq:V cD=2 ^ GV:=by decide +kernel
theorem Mb {u a b:Nat} (h:vY u a b) (hu:u<cD) {p:Int} (hp:400≤p):bel a b p:=by rw[BX h,py,jR,show(-p).toNat=0 by omega,Nat.pow_zero,bB,dv];have h1:=sZ hu;have h2:10 ^ DX*2 ^ K74≤10 ^ p.toNat*2 ^ K74:=aI _ (aS (by decide) (by rw[vS];omega));have h3:=BD;omega
theorem Ma {u a b:Nat} (h:vY u a b) (h0:0<u) {p:Int} (hp:p≤-400):¬bel a b p:=by rw[BX h,py,jR,show p.toNat=0 by omega,Nat.pow_zero,bB,dv];have h1:=zO u;have h2:10 ^ DX≤10 ^ (-p).toNat:=aS (by decide) (by rw[vS];omega);have h3:=FP;have h4:1*10 ^ (-p).toNat≤V u*10 ^ (-p).toNat:=aI _ (by omega);omega
theorem Qa {u a b:Nat} (h:vY u a b) {p:Int} (h1:bel a b p) (h2:¬bel a b (p-1)):Top u p:=by rw[BX h] at h1 h2;exact⟨dS h2,h1⟩
theorem J8 {a b:Nat} (h:2 ^ a<2 ^ b):a<b:=(Nat.pow_lt_pow_iff_right (by decide)).1 h
theorem vY.bits {u a b s t:Nat} (h:vY u a b) (h0:0<u) (hu:u<cD) (a1:2 ^ s≤2*a) (a2:a<2 ^ s) (b1:2 ^ t≤2*b) (b2:b<2 ^ t):-1100≤(s:Int)-t∧(s:Int)-t≤1100:=by
 have hv1:=zO u;have hv2:=sZ hu;rw[Uq] at hv2;have he:=h.ea;have hK:=nM;have hL:=Mq;have p74:0<2 ^ K74:=bf (by decide);constructor
 ·have e1:b≤V u*b:=rM b (by omega);have e2:a*2 ^ K74<2 ^ s*2 ^ K74:=bq a2 p74;rw[←aY] at e2;have e3:2 ^ t<2 ^ (s+K74+1):=by rw[Nat.pow_succ];omega
  have:=J8 e3;omega
 ·have e1:V u*b<2 ^ GV*2 ^ t:=mI hv2 b2;have e2:2 ^ s*2 ^ K74≤2*a*2 ^ K74:=aI _ a1;rw[aA] at e2;rw[←aY] at e1 e2;have e3:2 ^ (s+K74)<2 ^ (GV+t+1):=by rw[Nat.pow_succ];omega
  have:=J8 e3;omega
def jd (a b:Nat) (p:Int) (j L R:Nat):Prop:=a*10 ^ (-p).toNat*10 ^ j=L*(b*10 ^ p.toNat)+R
theorem jd.start {a b:Nat} {p:Int}:jd a b p 0 0 (a*10 ^ (-p).toNat):=by unfold jd;rw[Nat.pow_zero];omega
theorem jd.ten {a b j L R:Nat} {p:Int} (h:jd a b p j L R):jd a b p (j+1) (L*10) (R*10):=by unfold jd at h ⊢;rw[Nat.pow_succ,←aA,h,bS,aA,aK (b*_) 10,←aA L]
theorem jd.sub {a b j L R:Nat} {p:Int} (h:jd a b p j L R) (hle:b*10 ^ p.toNat≤R):jd a b p j (L+1) (R-b*10 ^ p.toNat):=by unfold jd at h ⊢;rw[h,bS,dv];omega
theorem jd.le {a b j L R:Nat} {p:Int} (h:jd a b p j L R) (hb:bel a b p):L<10 ^ j:=by
 unfold jd at h;unfold bel at hb
 by_cases hh:L<10 ^ j
 ·exact hh
 ·exfalso
  have h1:10 ^ j*(b*10 ^ p.toNat)≤L*(b*10 ^ p.toNat):=aI _ (by omega);have h2:a*10 ^ (-p).toNat*10 ^ j<b*10 ^ p.toNat*10 ^ j:=bq hb (bf (by decide));rw[aK (10 ^ j)] at h1;omega
theorem jd.floor {u a b j L R:Nat} {p:Int} (h:jd a b p j L R) (hf:vY u a b) (hR:R<b*10 ^ p.toNat):gO u (p-j) L:=by
 unfold jd at h;have h1:=(hf.lt p j 1 L).1;have h2:=(hf.lt p j 1 (L+1)).1;rw[dv,dv] at h1 h2;refine⟨?_,?_⟩
 ·refine dS fun hh=>?_
  have:=h1.2 hh;omega
 ·refine h2.1 ?_;rw[h,bS,dv];omega
theorem jd.half {u a b j L R:Nat} {p:Int} (h:jd a b p j L R) (hf:vY u a b):
  (b*10 ^ p.toNat<R*2↔cN (2*L+1) (p-j)<2*(V u*cC (p-j)))∧(R*2<b*10 ^ p.toNat↔2*(V u*cC (p-j))<cN (2*L+1) (p-j)):=by
 unfold jd at h;obtain⟨h1,h2⟩:=hf.lt p j 2 (2*L+1);rw[←h1,←h2,h];have e:(2*L+1)*(b*10 ^ p.toNat)=2*(L*(b*10 ^ p.toNat))+b*10 ^ p.toNat:=by rw[bS,aA,dv]
 rw[e];constructor<;>constructor<;>intro hh<;>omega
end fl
end Go.Proofs.YthpdlidbaojlbaaGreatDoor
