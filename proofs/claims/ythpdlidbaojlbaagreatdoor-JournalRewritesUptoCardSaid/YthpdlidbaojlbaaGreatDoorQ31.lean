/- The document's records and flocks (ref09, ref10): where a ne -/
import Derived.Test.YthpdlidbaojlbaaGreatDoorQ30
set_option linter.unusedVariables false
set_option linter.unusedSimpArgs false
set_option maxHeartbeats 4000000
open Go.ChangeShapes Go.WideShapes Go.RowKit
namespace Go.Proofs.YthpdlidbaojlbaaGreatDoor
namespace jw
open ks (af ae hlt ah bC alloc_old aG aX aT dp)
theorem RD:(Tryz.prog.info? 3).map (fun i=>(i.zero,i.size,i.bytes))=some (some (.int .i64 0),1,8):=by kernel_rfl
theorem T6 {W:World} {ops:Array Oper} {rest:List Oper} {o:Oper} {a:Act} {Q:Exit→Act→World→Prop} (hgd:o.guard=none) (s x:Operand) (ho:o.op=.call { callee:=.builtin .append,args:=#[s,x],argTypes:=#[148,148] }) (B:Nat) (v:Value) (n:Nat) (l:List Int) (y:Int)
    (hs:a.eval s=v) (hown:bF encI 1 3 B W v l) (hn:n=l.length) (hx:a.eval x=.slice (some ⟨W.heap.size,0,none⟩) 1 1) (h1:n≤8388608) (hB:B≤W.heap.size)
    (h:∀ g cap w',eW encI 1 3 B W w' v l y g n cap→wpList Tryz.prog ops Q rest (a.put o.dst (.slice (some ⟨g,0,none⟩) (n+1) cap)) w'):wpList Tryz.prog ops Q (o::rest) a (W.alloc (.cells #[.int .i64 y] 3)):=by
  obtain⟨i9,hi9,iV,iA,im⟩:=cF RD;exact gV hgd s x 148 ho encI 1 3 B i9 (.int .i64 0) 8 Tryz.underlying148 hi9 iV iA im rfl Su v n l y hs hown hn 3 rfl 1 hx (by unfold maxLen;omega) (by omega) hB h
namespace Dc
variable {B:Nat} {E:List Nat} {w W:World} {db:Nat} {kl:List ByteArray} {seed at_:Nat} {ov yv kv vv:Value} {os ys:List SL} {zs:List Int}
theorem more {w5 w6 w7:World} {s:ByteArray} {z:Int} {g n cap g2 n2 cap2:Nat} (h:Dc B E w db kl seed at_ ov yv kv vv os ys zs) (hp:eW b9 1 9 B w w5 kv kl s g n cap)
    (h6:w5.setCell ⟨db,4,none⟩ (.slice (some ⟨g,0,none⟩) (n+1) cap)=w6) (hq:eW encI 1 3 B w6 w7 vv zs z g2 n2 cap2) (hn:kl.length<1048576):
    Dc B E (w7.setCell ⟨db,5,none⟩ (.slice (some ⟨g2,0,none⟩) (n2+1) cap2)) db (kl++[s]) seed at_ ov yv (.slice (some ⟨g,0,none⟩) (n+1) cap) (.slice (some ⟨g2,0,none⟩) (n2+1) cap2) os ys (zs++[z])∧
      Sp B E w (w7.setCell ⟨db,5,none⟩ (.slice (some ⟨g2,0,none⟩) (n2+1) cap2)):=by
  have a1:kv.ownBlock≠some db:=h.keys.bw h.hd (by decide);have a2:vv.ownBlock≠some db:=h.ph.bw h.hd (by decide);have k1:=hp.bY;have k2:af [db] w5 w6:=by rw[←h6];exact(af.refl _ w5).setCell (p:=⟨db,4,none⟩) (.inl (by simp)) _
  have k3:=hq.bY;have k4:af [db] w7 (w7.setCell ⟨db,5,none⟩ (.slice (some ⟨g2,0,none⟩) (n2+1) cap2)):=(af.refl _ w7).setCell (p:=⟨db,5,none⟩) (.inl (by simp)) _;have d5:=k1.get h.hd (by simpa using a1);have d6:=aX d5 4 (.slice (some ⟨g,0,none⟩) (n+1) cap);rw[h6] at d6;have d7:=k3.get d6 (by simpa using a2);have d8:=aX d7 5 (.slice (some ⟨g2,0,none⟩) (n2+1) cap2);obtain⟨F,hF⟩:∃ F,F=db::(kv.ownBlock.toList++vv.ownBlock.toList):=⟨_,rfl⟩
  have hk:af F w (w7.setCell ⟨db,5,none⟩ (.slice (some ⟨g2,0,none⟩) (n2+1) cap2)):=by subst hF;exact(((k1.mono (by simp +contextual)).trans (k2.mono (by simp))).trans (k3.mono (by simp +contextual))).trans (k4.mono (by simp))
  have YG:∀ b∈F,b=db∨kv.ownBlock=some b∨vv.ownBlock=some b:=by subst hF;intro b hb;simpa using hb
  have hch:∀ {v:Value} {xs:List SL},iz B w v kv xs→iz B (w7.setCell ⟨db,5,none⟩ (.slice (some ⟨g2,0,none⟩) (n2+1) cap2)) v (.slice (some ⟨g,0,none⟩) (n+1) cap) xs:=by
    intro v xs hc;refine⟨hc.row.keeps hk (fun b hb hm=>?_),fun x hx=>?_⟩
    · rcases YG b hm with rfl|h1|h1
      · exact hc.row.bw h.hd (by decide) hb
      · exact hc.row.apart h.keys (by decide) b hb h1
      · exact hc.row.apart h.ph (by decide) b hb h1
    · obtain⟨l,⟨h1,h2⟩,h3⟩:=hc.each x hx
      refine⟨l,⟨h1.keeps hk (fun b hb hm=>?_),h2⟩,fun b hb e=>?_⟩
      · rcases YG b hm with rfl|h4|h4
        · exact h1.bw h.hd (by decide) hb
        · exact h3 b hb h4
        · exact h1.apart h.ph (by decide) b hb h4
      · simp[Value.ownBlock] at e
        subst e
        rcases hp.at_ with h4|h4
        · exact h3 _ hb h4
        · have:=(h1.lt _ hb).2
          omega
  have hown:bF b9 1 9 B (w7.setCell ⟨db,5,none⟩ (.slice (some ⟨g2,0,none⟩) (n2+1) cap2)) (.slice (some ⟨g,0,none⟩) (n+1) cap) (kl++[s]):=by
    have hv6:bF encI 1 3 B w6 vv zs:=(h.ph.keeps (k1.mono (fun b hb=>bO db hb)) (fun b hb hm=>by
      rcases bM.1 hm with rfl|hm
      · exact a2 hb
      · exact h.keys.apart h.ph (by decide) b (by simpa using hm) hb)).keeps k2 (fun b hb hm=>by simp at hm;subst hm;exact a2 hb)
    have o6:=hp.own.keeps k2 (fun b hb hm=>by simp at hm;subst hm;exact hp.own.bw d5 (by decide) hb);have o7:=o6.keeps k3 (fun b hb hm=>o6.apart hv6 (by decide) b hb (by simpa using hm));exact o7.keeps k4 (fun b hb hm=>by simp at hm;subst hm;exact o7.bw d7 (by decide) hb)
  have hz:bF encI 1 3 B (w7.setCell ⟨db,5,none⟩ (.slice (some ⟨g2,0,none⟩) (n2+1) cap2)) (.slice (some ⟨g2,0,none⟩) (n2+1) cap2) (zs++[z]):=hq.own.keeps k4 (fun b hb hm=>by simp at hm;subst hm;exact hq.own.bw d7 (by decide) hb)
  refine⟨⟨by rw[d8];rfl,h.sd,hch h.old,hch h.aW,h.oy,hown,hz,h.uj,h.on,h.yn,by simp;omega,by simp[h.zn],h.b,fun b hb=>?_⟩,h.sp hk (fun b hb=>?_)⟩
  · obtain⟨q1,q2,q3,q4,q5,q6⟩:=h.off b hb
    refine⟨aP q1 hk.size,q2,q3,q4,fun e=>?_,fun e=>?_⟩
    · simp[Value.ownBlock] at e
      rcases hp.at_ with h4|h4
      · exact q5 (by rw[h4,e])
      · omega
    · simp[Value.ownBlock] at e
      rcases hq.at_ with h4|h4
      · exact q6 (by rw[h4,e])
      · have:=k1.size
        have:=k2.size;omega
  · rcases YG b hb with rfl|h1|h1
    · exact⟨h.b,fun he=>(h.off _ he).2.1 rfl⟩
    · exact⟨(h.keys.lt b h1).1,fun he=>(h.off b he).2.2.2.2.1 h1⟩
    · exact⟨(h.ph.lt b h1).1,fun he=>(h.off b he).2.2.2.2.2 h1⟩
theorem U4 (h:Dc B E w db kl seed at_ ov yv kv vv os ys zs) (n:Nat) (hn:n≤2097152) (ha:at_≤n):
    Dc B E ((w.alloc (.cells (madeCells (Value.slice none 0 0).cells (n*1)) 32)).setCell ⟨db,1,none⟩ (.slice (some ⟨w.heap.size,0,none⟩) n n)) db kl seed at_ (.slice (some ⟨w.heap.size,0,none⟩) n n) yv kv vv (List.replicate n yE) ys zs∧
      Sp B E w ((w.alloc (.cells (madeCells (Value.slice none 0 0).cells (n*1)) 32)).setCell ⟨db,1,none⟩ (.slice (some ⟨w.heap.size,0,none⟩) n n)):=by
  have hk1:=(af.refl [] w).alloc (.cells (madeCells (Value.slice none 0 0).cells (n*1)) 32);have h1:=h.aN hk1;have hc:=wZ B w n kv hn h.low;have hk:af [db] (w.alloc (.cells (madeCells (Value.slice none 0 0).cells (n*1)) 32)) ((w.alloc (.cells (madeCells (Value.slice none 0 0).cells (n*1)) 32)).setCell ⟨db,1,none⟩ (.slice (some ⟨w.heap.size,0,none⟩) n n)):=(af.refl _ _).setCell (p:=⟨db,1,none⟩) (.inl (by simp)) _;obtain⟨r1,r2,r3,r4⟩:=h1.rows hk;have hdb:=hlt h.hd
  refine⟨⟨by rw[aX h1.hd 1 _];rfl,h.sd,hc.other h1.hd (by decide) (fun e=>by simp[Value.ownBlock] at e;omega) hk,r2,fun b hb e=>?_,r3,r4,by simpa using ha,by simpa using hn,h.yn,h.kn,h.zn,h.b,fun b hb=>by
    obtain⟨q1,q2,q3,q4,q5⟩:=h1.off b hb;obtain⟨p1,_⟩:=h.off b hb
    exact⟨aP q1 hk.size,q2,(by simp[Value.ownBlock];omega),q4,q5⟩⟩,(h.sp0 hk1).trans (h1.qF hk)⟩
  simp[Value.ownBlock] at hb;have:=(h.aW.row.lt b e).2;omega
theorem U3 (h:Dc B E w db kl seed at_ ov yv kv vv os ys zs) (n:Nat) (hn:n≤2097152):
    Dc B E ((w.alloc (.cells (madeCells (Value.slice none 0 0).cells (n*1)) 32)).setCell ⟨db,2,none⟩ (.slice (some ⟨w.heap.size,0,none⟩) n n)) db kl seed at_ ov (.slice (some ⟨w.heap.size,0,none⟩) n n) kv vv os (List.replicate n yE) zs∧
      Sp B E w ((w.alloc (.cells (madeCells (Value.slice none 0 0).cells (n*1)) 32)).setCell ⟨db,2,none⟩ (.slice (some ⟨w.heap.size,0,none⟩) n n)):=by
  have hk1:=(af.refl [] w).alloc (.cells (madeCells (Value.slice none 0 0).cells (n*1)) 32);have h1:=h.aN hk1;have hc:=wZ B w n kv hn h.low;have hk:af [db] (w.alloc (.cells (madeCells (Value.slice none 0 0).cells (n*1)) 32)) ((w.alloc (.cells (madeCells (Value.slice none 0 0).cells (n*1)) 32)).setCell ⟨db,2,none⟩ (.slice (some ⟨w.heap.size,0,none⟩) n n)):=(af.refl _ _).setCell (p:=⟨db,2,none⟩) (.inl (by simp)) _;obtain⟨r1,r2,r3,r4⟩:=h1.rows hk;have hdb:=hlt h.hd
  refine⟨⟨by rw[aX h1.hd 2 _];rfl,h.sd,r1,hc.other h1.hd (by decide) (fun e=>by simp[Value.ownBlock] at e;omega) hk,fun b hb e=>?_,r3,r4,h.uj,h.on,by simpa using hn,h.kn,h.zn,h.b,fun b hb=>by
    obtain⟨q1,q2,q3,q4,q5⟩:=h1.off b hb;obtain⟨p1,_⟩:=h.off b hb
    exact⟨aP q1 hk.size,q2,q3,(by simp[Value.ownBlock];omega),q5⟩⟩,(h.sp0 hk1).trans (h1.qF hk)⟩
  simp[Value.ownBlock] at e;have:=(h.old.row.lt b hb).2;omega
theorem Sc (h:Dc B E w db kl seed at_ ov yv kv vv os ys zs) (n:Nat) (hn:n≤2097152):
    Dc B E (((w.alloc (.cells (madeCells (Value.slice none 0 0).cells (n*1)) 32)).setCell ⟨db,2,none⟩ (.slice (some ⟨w.heap.size,0,none⟩) n n)).setCell ⟨db,3,none⟩ (.int .i64 0)) db kl seed 0 ov (.slice (some ⟨w.heap.size,0,none⟩) n n) kv vv os (List.replicate n yE) zs∧
      Sp B E w (((w.alloc (.cells (madeCells (Value.slice none 0 0).cells (n*1)) 32)).setCell ⟨db,2,none⟩ (.slice (some ⟨w.heap.size,0,none⟩) n n)).setCell ⟨db,3,none⟩ (.int .i64 0)):=by
  obtain⟨d1,d2⟩:=h.U3 n hn;obtain⟨e1,e2⟩:=d1.setAt 0 (bz _);exact⟨e1,d2.trans (d1.qF e2)⟩
end Dc
set_option maxRecDepth 100000 in
theorem JM (B:Nat) (E:List Nat) (db:Nat) (kl:List ByteArray) (s:ByteArray) (z:Int) (w:World) (h:DcE B E w db kl) (hs:s∉kl) (hss:s.size≤1048576) (hn:kl.length<1048576):
    Calls Tryz.prog 76 #[dp db,.string s,.int .i64 z] w fun r w'=>(∃ u,r=.returned u)∧DcE B E w' db (kl++[s])∧Sp B E w w':=by
  have HST:=ae (sr B E db kl w h);have HS:=ae hs;have Mx:=ae hss;have HN:=ae hn;unfold dp at HST ⊢;clear h hs hn hss;go_enter Tryz.func76,Tryz.ntmps76
  go_wp2_with fail
  refine HST.out.mono ?_;rintro r w1 ⟨rfl,h1,hb1⟩;obtain⟨seed,at_,ov,yv,kv,vv,os,ys,zs,a,hsum⟩:=h1;have VM:=ae (La db kv kl s w1 a.c4 (a.keys.row dR.n) a.kn HS.out);have HA:=ae a;have Ce:=ae hsum;have HB1:=ae hb1;unfold dp at VM;obtain⟨ya,yc,rfl,_,_,_,hya⟩:=a.aW.row.form;obtain⟨oa,oc,rfl,_,_,_,hoa⟩:=a.old.row.form;obtain⟨ka,kc,hkv,_,_,_,_⟩:=a.keys.form;obtain⟨ny,hny⟩:∃ n,ys.length=n:=⟨_,rfl⟩;obtain⟨no,hno⟩:∃ n,os.length=n:=⟨_,rfl⟩;obtain⟨nk,hnk⟩:∃ n,kl.length=n:=⟨_,rfl⟩;rw[hny,hno] at HA;rw[hnk] at hkv;have My:=ae hny;have rY:=ae hno;have MU:=ae hnk;have Wp:=ae hkv;have Lk:no≤2097152:=by rw[←hno];exact a.on
  clear a hsum hb1 hya hoa hny hno hnk hkv;go_wp2_with fail
  refine VM.out.mono ?_;rintro r w2 ⟨rfl,rfl⟩;have c1:=HA.out.c1;have c2:=HA.out.c2;have c4:=HA.out.c4;rw[Wp.out] at c4;have f1:=HA.out.fr 1;have f2:=HA.out.fr 2;have f3:=HA.out.fr 3
  go_upto_if 31 with(fail)
  go_cut [] (fun wx=>∃ (at2:Nat) (Z6 Z3:Value) (os2 ys2:List SL),Hid (Dc B E wx db kl seed at2 Z6 Z3 kv vv os2 ys2 zs∧mx os2+mx ys2≤kl.length∧(ys2.length=0→0<os2.length)∧Sp B E w1 wx))
  case first=>as_aux_lemma=>
    have m1:∀ o:Obj,(w1.alloc o).cell? ⟨db,1,none⟩=some (.slice oa no oc):=fun o=>ak ((af.refl [] w1).alloc o) c1
    have m2:∀ o:Obj,(w1.alloc o).cell? ⟨db,2,none⟩=some (.slice ya ny yc):=fun o=>ak ((af.refl [] w1).alloc o) c2
    have m3:∀ o:Obj,(w1.alloc o).frozen? ⟨db,1,none⟩=false:=fun o=>(HA.out.aN ((af.refl [] w1).alloc o)).fr 1
    have m4:∀ o:Obj,(w1.alloc o).frozen? ⟨db,2,none⟩=false:=fun o=>(HA.out.aN ((af.refl [] w1).alloc o)).fr 2
    have c3:=HA.out.c3;have HD1:=ae (show ∀ (q:Nat) (o:Obj),Dc B E ((w1.drewN q).alloc o) db kl seed at_ (.slice oa no oc) (.slice ya ny yc) kv vv os ys zs from fun q o=>HA.out.aN (((af.refl [] w1).drewN q).alloc o));have m12:∀ (q:Nat) (o:Obj),((w1.drewN q).alloc o).cell? ⟨db,2,none⟩=some (.slice ya ny yc):=fun q o=>(HD1.out q o).c2
    have m13:∀ (q:Nat) (o:Obj),((w1.drewN q).alloc o).cell? ⟨db,3,none⟩=some (.int .i64 (at_:Int)):=fun q o=>(HD1.out q o).c3
    have m14:∀ (q:Nat) (o:Obj),((w1.drewN q).alloc o).frozen? ⟨db,2,none⟩=false:=fun q o=>(HD1.out q o).fr 2
    have m15:∀ (q:Nat) (o:Obj),((w1.drewN q).alloc o).frozen? ⟨db,3,none⟩=false:=fun q o=>(HD1.out q o).fr 3
    have m5:∀ o:Obj,(w1.alloc o).cell? ⟨db,3,none⟩=some (.int .i64 (at_:Int)):=fun o=>ak ((af.refl [] w1).alloc o) c3
    have m6:∀ o:Obj,(w1.alloc o).frozen? ⟨db,3,none⟩=false:=fun o=>(HA.out.aN ((af.refl [] w1).alloc o)).fr 3
    by_cases hn0:no=0
    · have hmk:=fun W=>rS W 4 (by decide)
      rw[show(((4:Nat):Int))=(4:Int) from rfl] at hmk;have HG:=ae (HA.out.U4 4 (by decide) (by have:=HA.out.uj;rw[rY.out] at this;omega));subst hn0;go_wp2_with fail
      go_meet;refine⟨_,_,_,_,_,ae ⟨HG.out.1,?_,fun _=>by simp,HG.out.2⟩⟩;rw[Cx];have:=Ce.out;omega
    · have hn1:¬((no:Int)=0):=by omega
      have hn2:((no:Int) == 0)=false:=by simp;omega
      have HW:=ae (show ∀ q,Hid (Dc B E (w1.drewN q) db kl seed at_ (.slice oa no oc) (.slice ya ny yc) kv vv os ys zs∧Sp B E w1 (w1.drewN q)) from fun q=>ae ⟨HA.out.aN ((af.refl _ _).drewN q),HA.out.sp0 ((af.refl [] _).drewN q)⟩)
      by_cases hy0:ny=0
      · by_cases hkn:no≤nk
        · have hki:(no:Int)≤(nk:Int):=by omega
          have g1:decide ((no:Int)≤(nk:Int))=true:=by simp;omega
          have g2:decide (no≤nk)=true:=by simp;omega
          subst hy0;obtain⟨n2,UH⟩:∃ n,n=2*no:=⟨_,rfl⟩;have UG:n2≤2097152:=by have:=MU.out;have:=HN.out;omega
          have hmk:=fun W=>rS W n2 UG
          have hw2:(2:Int)*(no:Int)=(n2:Int):=by omega
          have hw3:IntKind.i64.wrap (2*(no:Int))=(n2:Int):=by rw[cH];omega
          have hw4:wrap64 (2*(no:Int))=(n2:Int):=by unfold wrap64;omega
          have O6:=ae UH;clear UH;go_wp2_with fail
          go_quiet (fail)
          go_wp2_with fail
          go_meet;have ZL:=(HW.out nq).out.1.Sc n2 UG;have HGZ:=(HW.out nq).out.2.trans ZL.2;have VO:=ZL.1;clear ZL;rw[bB] at VO HGZ;refine⟨0,_,_,_,_,ae ⟨VO,?_,fun _=>by rw[rY.out];omega,HGZ⟩⟩;rw[Cx];have:=Ce.out;omega
        · have g1:decide ((no:Int)≤(nk:Int))=false:=by simp;omega
          have g2:decide (no≤nk)=false:=by simp;omega
          subst hy0;go_wp2_with fail
          go_quiet (fail)
          go_wp2_with fail
          go_meet;exact⟨_,_,_,_,_,ae ⟨(HW.out _).out.1,Ce.out,fun _=>by rw[rY.out];omega,(HW.out _).out.2⟩⟩
      · have hy1:((ny:Int) == 0)=false:=by simp;omega
        have hy2:¬((ny:Int)=0):=by omega
        go_wp2_with fail
        go_quiet (fail)
        go_wp2_with fail
        go_meet;exact⟨_,_,_,_,_,ae ⟨(HW.out _).out.1,Ce.out,fun h=>by rw[My.out] at h;omega,(HW.out _).out.2⟩⟩
  case rest=>
    obtain⟨at2,Z6,Z3,os2,ys2,HD⟩:=hcut;clear c1 c2 c4 f1 f2 f3;obtain⟨TM,Wv,rfl,_,_,_,qw⟩:=HD.out.1.aW.row.form;obtain⟨Ue,WC,rfl,_,_,_,qx⟩:=HD.out.1.old.row.form;obtain⟨Pm,N6⟩:∃ n,ys2.length=n:=⟨_,rfl⟩;obtain⟨To,N7⟩:∃ n,os2.length=n:=⟨_,rfl⟩;rw[N6,N7] at HD;have VD:=ae N6;have VG:=ae N7;have Zg:=ae qw;have ZA:=ae qx;have Lj:Pm≤2097152:=by rw[←N6];exact HD.out.1.yn
    have UF:To≤2097152:=by rw[←N7];exact HD.out.1.on
    clear N6 N7 qw qx;have c1:=HD.out.1.c1;have c2:=HD.out.1.c2
    go_upto_if 73 with(fail)
    go_cut [] (fun wx=>∃ (os3 ys3:List SL),Hid (Dc B E wx db kl seed at2 (.slice Ue To WC) (.slice TM Pm Wv) kv vv os3 ys3 zs∧mx os3+mx ys3≤kl.length+1∧Sp B E w1 wx))
    case first Jc Kc zK hKc=>
      have vV:=ae (fun(t:Nat) (u:Option Addr) (c:Nat) (h0:0<t) (ht:t≤2097152)=>Kb db t c u seed s wc HD.out.1.c0 HD.out.1.sd (by have:=Mx.out;unfold maxLen;omega) h0 ht);unfold dp at vV
      by_cases hy0:Pm=0
      · have UD:0<To:=HD.out.2.2.1 hy0
        have S7:=ae (vV.out To Ue WC UD UF);subst hy0;obtain⟨og,rfl⟩:=ZA.out (by rw[VG.out];omega);go_wp2_with fail
        refine S7.out.mono ?_;rintro r w4 ⟨⟨i,hi,rfl⟩,rfl⟩;obtain⟨y,hy⟩:∃ y,os2[i]?=some y:=⟨_,ag (by rw[VG.out];exact hi)⟩;have cy:=kP HD.out.1.old hy;obtain⟨l2,⟨yR,Ds⟩,_⟩:=HD.out.1.old.each y (aB hy)
        have hyl:y.2.1≤1048576:=by have:=uY (aB hy);have:=HD.out.2.1;have:=HN.out;omega
        have G7:=ae (fun W (hk:af [] wc W)=>Fz B s y l2 W (yR.aN hk) (aF HD.out.1.low hk.size) (by rw[←q8 yR];exact hyl))
        have xu:=ae (fun(W:World) (z:SL) (ho:bF b9 1 9 B W (slV z) (s::l2)) (hnew:∀ b,(slV z).ownBlock=some b→wc.heap.size≤b) (hk:af [] wc W)=>HD.out.1.Uh hy yR ho hnew hk (fun t ht=>by
          rcases bM.1 ht with rfl|ht
          · exact Mx.out
          · exact Ds t ht))
        have hin:(i:Int)<(To:Int):=by omega
        have hc2:=ae (show ∀ W,af [] wc W→W.cell? ⟨db,1,none⟩=some (.slice (some ⟨og,0,none⟩) To WC) from fun W hk=>ak hk HD.out.1.c1);have hcy:=ae (show ∀ W,af [] wc W→W.cell? ⟨og,i,none⟩=some (.slice y.1 y.2.1 y.2.2) from fun W hk=>ak hk (kP HD.out.1.old hy));have Lr:=ae (show ∀ W,af [] wc W→W.frozen? ⟨og,i,none⟩=false from fun W hk=>(HD.out.1.old.row.aN hk).frozen i);clear yR Ds hy vV hyl;obtain⟨y1,y2,y3⟩:=y;unfold slV at G7;simp only at cy G7 hcy;go_wp2_with fail
        have fy:=Lr.out wc (af.refl _ _)
        go_region_law (first|(go_simp;go_at_call 121;refine(G7.out _ ((af.refl _ wc).drew)).mono ?_;rintro r w5 ⟨⟨z1,z2,z3⟩,rfl,ho,hnew,hk5⟩;have mj:af [] wc w5:=((af.refl _ wc).drew).trans hk5;have q2:=hc2.out w5 mj;have qy:=hcy.out w5 mj;have gy:=Lr.out w5 mj;have HO:=ae ho;have Eb:=ae hnew;have zA:=ae mj;clear ho hnew hk5 mj))
        all_goals
          have gA:=ae (xu.out w5 (z1,z2,z3) HO.out Eb.out zA.out);clear q2 qy gy c1 c2 cy fy hc2 hcy Lr G7 xu;go_wp2_with fail
          go_meet;exact⟨os2.set i (z1,z2,z3),ys2,ae ⟨gA.out.1,by rw[gA.out.2.1];have:=HD.out.2.1;omega,HD.out.2.2.2.trans gA.out.2.2⟩⟩
      · have hyi:(0:Int)<(Pm:Int):=by omega
        have g1:decide ((0:Int)<(Pm:Int))=true:=by simp;omega
        have S7:=ae (vV.out Pm TM Wv (by omega) Lj);obtain⟨yg,rfl⟩:=Zg.out (by rw[VD.out];omega);go_wp2_with fail
        refine S7.out.mono ?_;rintro r w4 ⟨⟨i,hi,rfl⟩,rfl⟩;obtain⟨y,hy⟩:∃ y,ys2[i]?=some y:=⟨_,ag (by rw[VD.out];exact hi)⟩;have cy:=kP HD.out.1.aW hy;obtain⟨l2,⟨yR,Ds⟩,_⟩:=HD.out.1.aW.each y (aB hy)
        have hyl:y.2.1≤1048576:=by have:=uY (aB hy);have:=HD.out.2.1;have:=HN.out;omega
        have G7:=ae (fun W (hk:af [] wc W)=>Fz B s y l2 W (yR.aN hk) (aF HD.out.1.low hk.size) (by rw[←q8 yR];exact hyl))
        have xu:=ae (fun(W:World) (z:SL) (ho:bF b9 1 9 B W (slV z) (s::l2)) (hnew:∀ b,(slV z).ownBlock=some b→wc.heap.size≤b) (hk:af [] wc W)=>HD.out.1.Pn hy yR ho hnew hk (fun t ht=>by
          rcases bM.1 ht with rfl|ht
          · exact Mx.out
          · exact Ds t ht))
        have hin:(i:Int)<(Pm:Int):=by omega
        have hc2:=ae (show ∀ W,af [] wc W→W.cell? ⟨db,2,none⟩=some (.slice (some ⟨yg,0,none⟩) Pm Wv) from fun W hk=>ak hk HD.out.1.c2);have hcy:=ae (show ∀ W,af [] wc W→W.cell? ⟨yg,i,none⟩=some (.slice y.1 y.2.1 y.2.2) from fun W hk=>ak hk (kP HD.out.1.aW hy));have Lr:=ae (show ∀ W,af [] wc W→W.frozen? ⟨yg,i,none⟩=false from fun W hk=>(HD.out.1.aW.row.aN hk).frozen i);clear yR Ds hy vV hyl;obtain⟨y1,y2,y3⟩:=y;unfold slV at G7;simp only at cy G7 hcy;go_wp2_with fail
        have fy:=Lr.out wc (af.refl _ _)
        go_region_law (first|(go_simp;go_at_call 121;refine(G7.out _ ((af.refl _ wc).drew)).mono ?_;rintro r w5 ⟨⟨z1,z2,z3⟩,rfl,ho,hnew,hk5⟩;have mj:af [] wc w5:=((af.refl _ wc).drew).trans hk5;have q2:=hc2.out w5 mj;have qy:=hcy.out w5 mj;have gy:=Lr.out w5 mj;have HO:=ae ho;have Eb:=ae hnew;have zA:=ae mj;clear ho hnew hk5 mj))
        all_goals
          have gA:=ae (xu.out w5 (z1,z2,z3) HO.out Eb.out zA.out);clear q2 qy gy c1 c2 cy fy hc2 hcy Lr G7 xu;go_wp2_with fail
          go_meet;exact⟨os2,ys2.set i (z1,z2,z3),ae ⟨gA.out.1,by rw[gA.out.2.1];have:=HD.out.2.1;omega,HD.out.2.2.2.trans gA.out.2.2⟩⟩
    case rest=>
      obtain⟨os3,ys3,HE⟩:=hcut;clear c1 c2;have c4:=HE.out.1.c4;have hB4:B≤wc.heap.size:=HE.out.1.low;have hkn:kl.length≤8388608:=by have:=HN.out;omega
      have f4:=HE.out.1.fr 4;have c5:=HE.out.1.c5;have G6:=ae hB4
      go_wp2_with (at_builtin;first
        | (have _:=HP
           refine T6 rfl _ _ rfl B vv zs.length zs z rfl HO.out rfl rfl HZ.out Pb.out ?_;intro g2 cap2 w7 hq;have HQ:=ae hq;have f75:=(HF7.out _ hq.bY).2;obtain⟨u7,c75⟩:=(HF7.out _ hq.bY).1
           clear hq)
        | (refine Ab rfl _ _ rfl B kv kl.length kl s rfl HE.out.1.keys rfl rfl hkn hB4 ?_
           intro g cap w5 hp;have hd5:=hp.bY.get HE.out.1.hd (by have:=HE.out.1.keys.bw HE.out.1.hd (by decide);simpa using this);have c54:w5.cell? ⟨db,4,none⟩=some kv:=by rw[ah hd5];rfl
           have c55:w5.cell? ⟨db,5,none⟩=some vv:=by rw[ah hd5];rfl
           have f54:w5.frozen? ⟨db,4,none⟩=false:=bC hd5 4;have tU:∃ w6,w5.setCell ⟨db,4,none⟩ (.slice (some ⟨g,0,none⟩) (kl.length+1) cap)=w6:=⟨_,rfl⟩;obtain⟨w6,tU⟩:=tU;have WL:af [db] w5 w6:=by rw[←tU];exact(af.refl _ w5).setCell (p:=⟨db,4,none⟩) (.inl (by simp)) _
           have N5:bF encI 1 3 B w6 vv zs:=(HE.out.1.ph.keeps hp.bY (fun b hb hm=>HE.out.1.keys.apart HE.out.1.ph (by decide) b (by simpa using hm) hb)).keeps WL (fun b hb hm=>by simp at hm;subst hm;exact HE.out.1.ph.bw HE.out.1.hd (by decide) hb);have HO:=ae N5;have Pb:=ae (show B≤w6.heap.size by have:=G6.out;have:=hp.bY.size;have:=WL.size;omega);have HZ:=ae (show zs.length≤8388608 by have:=HE.out.1.zn;have:=HN.out;omega);have hd6:=aX hd5 4 (.slice (some ⟨g,0,none⟩) (kl.length+1) cap);rw[tU] at hd6
           have HF7:=ae (show ∀ W,af vv.ownBlock.toList w6 W→(∃ u,W.cell? ⟨db,5,none⟩=some u)∧W.frozen? ⟨db,5,none⟩=false from fun W hk=>by
             have h7:=hk.get hd6 (by have:=HE.out.1.ph.bw HE.out.1.hd (by decide);simpa using this)
             exact⟨⟨_,by rw[ah h7];rfl⟩,bC h7 5⟩)
           have c65:w6.cell? ⟨db,5,none⟩=some vv:=by rw[ah hd6];rfl
           have HP:=ae hp;have xE:=ae tU
           clear hp hd6 N5 WL hd5 c55))
      obtain⟨m1,m2⟩:=HE.out.1.more HP.out xE.out HQ.out HN.out;have M1:=ae m1;have M2:=ae m2;clear m1 m2;go_ret;exact⟨⟨_,rfl⟩,⟨_,_,_,_,_,_,_,_,_,M1.out,by have:=HE.out.2.1;simp;omega⟩,HB1.out.trans (HE.out.2.2.trans M2.out)⟩
end jw
namespace jw
open ks (af ae hlt ah bC alloc_old aG aX aT dp)
theorem ot (a b:ByteArray):Op.bytesLess a.toList b.toList=decide (tlt a b):=by rw[oN,dW,dW];rfl
theorem Ke (rb:Nat) (av:Option Addr) (n cap:Nat) (ps:List (ByteArray×ByteArray)) (s:ByteArray) (w:World) (hc:w.cell? ⟨rb,1,none⟩=some (.slice av n cap)) (h:eh gJ 2 w (.slice av n cap) ps) (hn:n≤1048576) (hs:∀ y∈ps,y.1≠s):
  Calls Tryz.prog 75 #[dp rb,.string s] w fun r w'=>r=.returned (.tuple #[.int .i64 (lbK (fun x=>x.1) ps s:Int),.bool false])∧af [] w w':=by
 have hnl:=h.yH;obtain⟨a2,c2,e,_,_,_,hr⟩:=h.bL
 injection e with e1 e2 e3
 subst e1;rw[←hnl] at hr;have HR:=ae hr;have HS:=ae hs;have HN:=ae hnl;have hlb:lbK (fun x=>x.1) ps s≤n:=by rw[hnl];exact E5 _ _ _
 have VK:=ae hlb;clear h hr hs hnl e2 e3 hlb;unfold dp;go_enter Tryz.func75,Tryz.ntmps75
 go_wp2_with fail
 go_loop [6] (fun i=>∃ k:Nat,k≤n∧i=.int .i64 (k:Int)∧Hid (∀ p y,p<k→ps[p]?=some y→tlt y.1 s)) (fun i=>n-(intOf i).toNat)
 case atStart=>exact⟨0,bz _,rfl,ae (fun p y hp=>by omega)⟩
 case round=>
  obtain⟨k,hk,rfl,HV⟩:=hrel
  by_cases hlt2:k<n
  ·obtain⟨x,hx⟩:∃ x,ps[k]?=some x:=⟨_,ag (by rw[←HN.out];exact hlt2)⟩;obtain⟨g,off,rfl,hcc⟩:=HR.out (by omega);have hcx:=(hcc k x hx).1;have hkn:(k:Int)<(n:Int):=by omega
   by_cases ht:tlt x.1 s
   ·have hl:Op.bytesLess x.1.toList s.toList=true:=by rw[ot];simpa using ht
    have HX:=ae hx;have HT:=ae ht;clear hcc hx ht;go_wp2_with fail
    go_round
    case rel=>exact⟨k+1,by omega,by go_num,ae (fun p y hp hy=>by
     rcases dD p k with h1|h1
     ·exact HV.out p y h1 hy
     ·obtain rfl:p=k:=by omega
      rw[HX.out] at hy;obtain rfl:=cK hy
      exact HT.out)⟩
    case measure=>simp[intOf];omega
   ·have hl:Op.bytesLess x.1.toList s.toList=false:=by rw[ot];simpa using ht
    have hne:(x.1.toList == s.toList)=false:=ks.iB (fun e=>HS.out x (aB hx) e);have HE:=ae (show lbK (fun x=>x.1) ps s=k from yL _ _ _ _ (by have:=HN.out;omega) HV.out (fun y hy=>by rw[hx] at hy;obtain rfl:=cK hy;exact ht));clear hcc hx ht;go_wp2_with fail
    go_quiet (fail)
    go_wp2_with fail
    go_ret2
    exact⟨by rw[HE.out];rfl,(af.refl _ _).drewN _⟩
  ·obtain rfl:k=n:=by omega
   have HE:=ae (show lbK (fun x=>x.1) ps s=k from yL _ _ _ _ (by have:=HN.out;omega) HV.out (fun y hy=>by have:=(au.1 hy).1;have:=HN.out;omega));go_wp2_with fail
   go_ret2
   exact⟨by rw[HE.out];rfl,af.refl _ _⟩
theorem Kd (rb:Nat) (av:Option Addr) (n cap:Nat) (ps:List ByteArray) (s:ByteArray) (w:World) (hc:w.cell? ⟨rb,1,none⟩=some (.slice av n cap)) (h:eh b9 1 w (.slice av n cap) ps) (hn:n≤1048576) (hs:∀ y∈ps,y≠s):
  Calls Tryz.prog 77 #[dp rb,.string s] w fun r w'=>r=.returned (.tuple #[.int .i64 (lbK id ps s:Int),.bool false])∧af [] w w':=by
 have hnl:=h.yH;obtain⟨a2,c2,e,_,_,_,hr⟩:=h.texts
 injection e with e1 e2 e3
 subst e1;rw[←hnl] at hr;have HR:=ae hr;have HS:=ae hs;have HN:=ae hnl;clear h hr hs hnl e2 e3;unfold dp;go_enter Tryz.func77,Tryz.ntmps77
 go_wp2_with fail
 go_loop [13,6,7] (fun i _ _=>∃ k:Nat,k≤n∧i=.int .i64 (k:Int)∧Hid (∀ p y,p<k→ps[p]?=some y→tlt y s)) (fun i _ _=>n-(intOf i).toNat)
 case atStart=>exact⟨0,bz _,rfl,ae (fun p y hp=>by omega)⟩
 case round=>
  obtain⟨k,hk,rfl,HV⟩:=hrel
  by_cases hlt2:k<n
  ·obtain⟨x,hx⟩:∃ x,ps[k]?=some x:=⟨_,ag (by rw[←HN.out];exact hlt2)⟩;obtain⟨g,off,rfl,hcc⟩:=HR.out (by omega);have hcx:=hcc k x hx;have hkn:(k:Int)<(n:Int):=by omega
   by_cases ht:tlt x s
   ·have hl:Op.bytesLess x.toList s.toList=true:=by rw[ot];simpa using ht
    have HX:=ae hx;have HT:=ae ht;clear hcc hx ht;go_wp2_with fail
    go_round
    case rel=>exact⟨k+1,by omega,by go_num,ae (fun p y hp hy=>by
     rcases dD p k with h1|h1
     ·exact HV.out p y h1 hy
     ·obtain rfl:p=k:=by omega
      rw[HX.out] at hy;obtain rfl:=cK hy
      exact HT.out)⟩
    case measure=>simp[intOf];omega
   ·have hl:Op.bytesLess x.toList s.toList=false:=by rw[ot];simpa using ht
    have hne:(x.toList == s.toList)=false:=ks.iB (fun e=>HS.out x (aB hx) e);have HE:=ae (show lbK id ps s=k from yL _ _ _ _ (by have:=HN.out;omega) HV.out (fun y hy=>by rw[hx] at hy;obtain rfl:=cK hy;exact ht));clear hcc hx ht;go_wp2_with fail
    go_ret2
    exact⟨by rw[HE.out];rfl,af.refl _ _⟩
  ·obtain rfl:k=n:=by omega
   have HE:=ae (show lbK id ps s=k from yL _ _ _ _ (by have:=HN.out;omega) HV.out (fun y hy=>by have:=(au.1 hy).1;have:=HN.out;omega));go_wp2_with fail
   go_ret2
   exact⟨by rw[HE.out];rfl,af.refl _ _⟩
end jw
end Go.Proofs.YthpdlidbaojlbaaGreatDoor
