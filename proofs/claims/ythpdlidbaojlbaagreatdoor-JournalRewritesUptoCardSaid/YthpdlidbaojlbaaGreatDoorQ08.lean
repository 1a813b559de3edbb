/- The document's lists (ref07): with, may, Push behind. -/
import Derived.Test.YthpdlidbaojlbaaGreatDoorQ07
import Derived.Test.YthpdlidbaojlbaaGreatDoorQ04
set_option linter.unusedVariables false
set_option linter.unusedSimpArgs false
set_option maxHeartbeats 4000000
open Go.ChangeShapes Go.WideShapes Go.RowKit
namespace Go.Proofs.YthpdlidbaojlbaaGreatDoor
namespace jw
open rk (Mem Fl gN qv lbR DV j9)
def lV (l:List Mem) (v:Mem):Nat:=l.countP (fun y=>decide (gN y v<0))
theorem DU {l m:List Mem} (h:l.Perm m) (v:Mem):lV l v=lV m v:=h.countP_eq _
theorem AF:∀ {S:List Mem} (v:Mem),j9 S→lV S v=lbR S v
 | [],v,_=>rfl
 | y::S,v,h=>by
  have h2:=eX.1 h;unfold lV;rw[List.countP_cons,rk.sF]
  by_cases hy:gN y v<0
  ·rw[aQ hy,aQ (by simpa using hy)];have:=AF v h2.2;unfold lV at this;rw[this]
  ·rw[aJ hy,aJ (by simpa using hy)];rw[Nat.add_zero];refine List.countP_eq_zero.2 (fun z hz=>?_);have h3:=h2.1 z hz;simp only[dr];intro h4;exact hy (rk.q9 h3 h4)
def inR (pre:List Mem) (x:Mem):Bool:=pre.any (fun y=>decide (y=x))
theorem xP {pre:List Mem} {x:Mem}:inR pre x=true↔x∈pre:=by
 unfold inR;rw[List.any_eq_true];constructor
 ·rintro⟨y,hy,e⟩;simp at e;rw[←e];exact hy
 ·intro h;exact⟨x,h,by simp⟩
def pD (S pre:List Mem):List Mem:=S.map (fun x=>if inR pre x=true then x else (ByteArray.empty,0))
theorem Hv (S:List Mem):pD S []=List.replicate S.length (ByteArray.empty,0):=by
 unfold pD
 apply dG
 intro i;rw[bK,jj]
 by_cases h:i<S.length
 ·rw[ag h,aQ h];rfl
 ·rw[bR (by omega),aJ h];rfl
theorem Hw {S pre:List Mem} (h:∀ x∈S,x∈pre):pD S pre=S:=by
 unfold pD
 conv=>rhs;rw[←nD S]
 exact nT (fun x hx=>by rw[aQ (xP.2 (h x hx))];rfl)
theorem Hu {S:List Mem} (hS:j9 S) {v:Mem} (hv:v∈S) (pre:List Mem):(pD S pre).set (lbR S v) v=pD S (pre++[v]):=by
 have hat:=rk.KO hS hv
 apply dG
 intro j;unfold pD;rw[dx,bK,bK,aU]
 by_cases hj:lbR S v=j
 ·rw[aQ hj,←hj,aQ (au.1 hat).1,hat];simp only[Option.map_some];rw[aQ (xP.2 (by simp))]
 ·rw[aJ hj]
  cases hx:S[j]? with
  | none=>rfl
  | some x=>
   have hne:x≠v:=by
    rintro rfl;obtain⟨h1,e1⟩:=au.1 hat;obtain⟨h2,e2⟩:=au.1 hx;have hp:=fB.1 hS
    rcases Nat.lt_or_gt_of_ne hj with h3|h3
    ·have:=hp _ _ h1 h2 h3;rw[e1,e2,rk.qp] at this;omega
    ·have:=hp _ _ h2 h1 h3;rw[e1,e2,rk.qp] at this;omega
   have e:inR (pre++[v]) x=inR pre x:=by rw[eL,xP,xP];simp[hne]
   simp only[Option.map_some,e]
theorem Ad (S pre:List Mem):(pD S pre).length=S.length:=by simp[pD]
theorem uC {l:List ByteArray} {s:ByteArray}:(l++[s]).Nodup↔l.Nodup∧s∉l:=by
 rw[bQ];constructor
 ·rintro⟨h1,_,h3⟩;exact⟨h1,fun hm=>h3 s hm s (by simp) rfl⟩
 ·rintro⟨h1,h2⟩;exact⟨h1,by simp,fun a ha b hb e=>h2 (by simp at hb;rw[←hb,←e];exact ha)⟩
def jH (l:List ByteArray):Nat:=(l.map (fun s=>s.size+1)).sum
def nQ (p:cG):Nat:=p.text.size+jH p.items+jH (p.bL.map (fun x=>x.1))+jH (p.bL.map (fun x=>x.2))+jH (p.bI.map (fun x=>x.1))
def sV (x:gn):Nat:=x.key.size+nQ x.val+1
def jc (l:List gn):Nat:=(l.map sV).sum
theorem ow (l:List ByteArray):l.length≤jH l:=by
 induction l with
 | nil=>simp[jH]
 | cons s l ih=>unfold jH at *;rw[bP,List.sum_cons,List.length_cons];omega
theorem tQ {l:List ByteArray} {s:ByteArray} (h:s∈l):s.size<jH l:=by
 induction l with
 | nil=>simp at h
 | cons x l ih=>
  unfold jH at *;rw[bP,List.sum_cons]
  rcases bM.1 h with rfl|h
  ·omega
  ·have:=ih h;omega
theorem Fx (s:ByteArray) (l:List ByteArray):jH (s::l)=s.size+1+jH l:=by simp[jH]
theorem rH (x:gn) (l:List gn):jc (x::l)=sV x+jc l:=by simp[jc]
theorem tR (l:List gn):l.length≤jc l:=by
 induction l with
 | nil=>simp[jc]
 | cons x l ih=>rw[rH,List.length_cons];unfold sV;omega
theorem IY {l:List gn} {x:gn} (h:x∈l):sV x≤jc l:=by
 induction l with
 | nil=>simp at h
 | cons y l ih=>
  rw[rH]
  rcases bM.1 h with rfl|h
  ·omega
  ·have:=ih h;omega
structure jz (p:cG):Prop where
 b:nQ p≤1048576
namespace jz
variable {p:cG} (h:jz p)
include h
theorem text:p.text.size≤1048576:=by have:=h.b;unfold nQ at this;omega
theorem items:jH p.items≤1048576:=by have:=h.b;unfold nQ at this;omega
theorem fields:jH (p.bL.map (fun x=>x.1))≤1048576:=by have:=h.b;unfold nQ at this;omega
theorem ph:jH (p.bL.map (fun x=>x.2))≤1048576:=by have:=h.b;unfold nQ at this;omega
theorem lN:jH (p.bI.map (fun x=>x.1))≤1048576:=by have:=h.b;unfold nQ at this;omega
theorem lO:p.items.length≤1048576:=aF (ow _) h.items
theorem mO:p.bL.length≤1048576:=by have:=ow (p.bL.map (fun x=>x.1));have:=h.fields;simp at *;omega
theorem mN:p.bI.length≤1048576:=by have:=ow (p.bI.map (fun x=>x.1));have:=h.lN;simp at *;omega
theorem item {s:ByteArray} (hs:s∈p.items):s.size≤1048576:=by have:=tQ hs;have:=h.items;omega
theorem field {x:ByteArray×ByteArray} (hx:x∈p.bL):x.1.size≤1048576:=by have:=tQ (aV.2 ⟨x,hx,rfl⟩:x.1∈p.bL.map (fun x=>x.1));have:=h.fields;omega
theorem val {x:ByteArray×ByteArray} (hx:x∈p.bL):x.2.size≤1048576:=by have:=tQ (aV.2 ⟨x,hx,rfl⟩:x.2∈p.bL.map (fun x=>x.2));have:=h.ph;omega
theorem mem {x:Mem} (hx:x∈p.bI):x.1.size≤1048576:=by have:=tQ (aV.2 ⟨x,hx,rfl⟩:x.1∈p.bI.map (fun x=>x.1));have:=h.lN;omega
theorem long:∀ s∈zk p,s.size≤1048576:=by
 intro s hs;unfold zk at hs
 rcases bj.1 hs with hs|hs
 ·rcases bj.1 hs with hs|hs
  ·rcases bM.1 hs with rfl|hs
   ·exact h.text
   ·exact h.item hs
  ·obtain⟨x,hx,hs⟩:=mJ.1 hs;simp at hs
   rcases hs with rfl|rfl
   ·exact h.field hx
   ·exact h.val hx
 ·obtain⟨x,hx,rfl⟩:=aV.1 hs;exact h.mem hx
theorem Kn:OkP p↔ti p∧(kL p).Nodup∧∀ x∈p.bI,x.2 % 9223372036854775808≤fl.cD:=⟨fun k=>⟨k.kind,k.once,k.num⟩,fun⟨a,b,c⟩=>⟨a,b,c,h.long,h.lO,h.mO,h.mN⟩⟩
end jz
theorem u9 {l:List gn} (h:jc l≤1048576) {x:gn} (hx:x∈l):jz x.val∧x.key.size≤1048576:=by have:=IY hx;unfold sV at this;exact⟨⟨by omega⟩,by omega⟩
theorem mE (pr:Nat→ByteArray) (q:cG):(eV pr q).length=q.items.length+q.bL.length+q.bI.length:=by unfold eV;simp[fW]
end jw
namespace jw
open ks (af ae hlt ah bC alloc_old aG aX aT dp)
structure uq (pr:Nat→ByteArray) (tx:Int→ByteArray) (B0:Nat) (w:World):Prop where
 sz:B0≤w.heap.size
 print:∀ W,Below B0 w W→∀ x,x<18446744073709551616→Calls Tryz.prog 65 #[.float .f64 x] W fun r w'=>r=.returned (.string (pr x))∧af [] W w'
 short:∀ x,x<18446744073709551616→(pr x).size≤2000
 text:∀ W,Below B0 w W→∀ n,-9223372036854775808≤n∧n≤9223372036854775807→Calls Tryz.prog 22 #[.int .i64 n] W fun r w'=>r=.returned (.string (tx n))∧af [] W w'
theorem uq.on {pr:Nat→ByteArray} {tx:Int→ByteArray} {B0:Nat} {w w':World} (h:uq pr tx B0 w) (hb:Below B0 w w'):uq pr tx B0 w':=⟨aF h.sz hb.size,fun W hw=>h.print W (hb.trans hw),h.short,fun W hw=>h.text W (hb.trans hw)⟩
theorem uq.keeps {pr:Nat→ByteArray} {tx:Int→ByteArray} {B0:Nat} {w w':World} {F:List Nat} (h:uq pr tx B0 w) (hk:af F w w') (hF:∀ b∈F,B0≤b):uq pr tx B0 w':=h.on (hk.ep h.sz hF)
def zp (g:Words):Prop:=g.length≤2∧dz g≤2100000
structure zm (B:Nat) (w:World) (F0:List Nat) (wb:Nat) (p8:List Words) (name key:ByteArray) (vK:Words) (done:List Words) (wr:World) (v:Value) (pre:List EF) (e:EF) (n:Nat):Prop where
 i:jl B wr wb v (pre++[e]) n
 nx:gX w F0 wr (eP wb v (pre++[e]))
 wr:∀ r,writes name key p8 vK 0 (done++r)=writes name key (pre.map (fun x=>x.ws)) e.ws n r
 ws:∃ rest,e.ws=name::key::rest
 le:n≤64
 len:pre.length≤p8.length+done.length
 sz:dz e.ws≤8388608
 el:e.ws.length≤3+2*n
theorem zm.aN {B:Nat} {w:World} {F0:List Nat} {wb:Nat} {p8:List Words} {name key:ByteArray} {vK:Words} {done:List Words} {wr w2:World} {v:Value} {pre:List EF} {e:EF} {n:Nat}
  (h:zm B w F0 wb p8 name key vK done wr v pre e n) (hk:af [] wr w2):zm B w F0 wb p8 name key vK done w2 v pre e n:=
 ⟨h.i.aN hk,h.nx.aN hk,h.wr,h.ws,h.le,h.len,h.sz,h.el⟩
theorem zm.add {B:Nat} {w:World} {F0:List Nat} {wb:Nat} {p8:List Words} {name key:ByteArray} {vK:Words} {done:List Words} {wr w2:World} {v v2:Value} {pre nW:List EF} {e e2:EF} {n n2:Nat} {g:Words}
  (h:zm B w F0 wb p8 name key vK done wr v pre e n) (hg:zp g) (hnk:dz [name,key]≤1100000) (hi:jl B w2 wb v2 (nW++[e2]) n2) (hn:gX wr (eP wb v (pre++[e])) w2 (eP wb v2 (nW++[e2])))
  (hr:FJ name key (pre.map (fun x=>x.ws)) e.ws n g (nW.map (fun x=>x.ws)) e2.ws n2):zm B w F0 wb p8 name key vK (done++[g]) w2 v2 nW e2 n2:=by
 have hw:∀ r,writes name key p8 vK 0 ((done++[g])++r)=writes name key (nW.map (fun x=>x.ws)) e2.ws n2 r:=fun r=>by rw[aD,h.wr,List.singleton_append,hr.writes]
 have hl:=h.len;have hsz:=h.sz;have hel:=h.el;have hn0:=h.le;obtain⟨g1,g2⟩:=hg;generalize hp2:nW.map (fun x=>x.ws)=p2 at hr hw
 generalize he2:e2.ws=ew at hr hw
 have UB:nW.length=p2.length:=by rw[←hp2];simp
 obtain⟨rest,hrest⟩:=h.ws
 cases hr with
 | new hb=>
  refine⟨hi,h.nx.trans hn,by rw[hp2,he2];exact hw,⟨g,by rw[he2];rfl⟩,by omega,?_,?_,?_⟩
  ·rw[UB];simp;omega
  ·rw[he2,lE];omega
  ·rw[he2];simp;omega
 | on hb=>
  have hb2:¬(n=64∨4194304<dz e.ws+dz g):=hb;refine⟨hi,h.nx.trans hn,by rw[hp2,he2];exact hw,⟨rest++g,by rw[he2,hrest];rfl⟩,by omega,?_,?_,?_⟩
  ·rw[UB];simp;omega
  ·rw[he2,lE];omega
  ·rw[he2];simp;omega
theorem qS (W:World) (g:List ByteArray) (B:Nat) (hB:B≤W.heap.size) (hl:g.length≤maxLen):bF b9 1 9 B (W.alloc (.cells (g.map Value.string).toArray 9)) (.slice (some ⟨W.heap.size,0,none⟩) g.length g.length) g:=by have:=pP (w:=W) (base:=B) (e:=9) (size:=1) (g.map Value.string).toArray g.length hB hl (by simp);unfold bF;rw[DB];simpa using this
theorem AE (B wb:Nat) (v:Value) (es:List EF) (n:Nat) (ws:List ByteArray) (W:World) (h:jl B W wb v es n) (hl:es.length≤1073741824) (hw:ws.length≤1048576):
  Calls Tryz.prog 21 #[.pointer (some ⟨wb,0,none⟩),.slice (some ⟨W.heap.size,0,none⟩) ws.length ws.length] (W.alloc (.cells (ws.map Value.string).toArray 9)) fun r w2=>r=.returned (.tuple #[])∧
   ∃ v',jl B w2 wb v' (es++[⟨W.heap.size,ws.length,ws⟩]) 0∧gX W (eP wb v es) w2 (eP wb v' (es++[⟨W.heap.size,ws.length,ws⟩])):=by
 have hB:=h.b;have hB2:=hlt h.hd;have hk2:af [] W (W.alloc (.cells (ws.map Value.string).toArray 9)):=(af.refl _ W).alloc _;have hz:(W.alloc (.cells (ws.map Value.string).toArray 9)).heap.size=W.heap.size+1:=by simp
 refine(Mc B wb v es n ⟨W.heap.size,ws.length,ws⟩ _ (h.aN hk2) (qS W ws B (by omega) (by unfold maxLen;omega)) (fun hm=>?_) hl).mono ?_
 ·exact absurd ((h.lt W.heap.size (bO _ (bA _ hm))).2) (kT _)
 ·rintro r w2 ⟨rfl,v',i1,k1,b1⟩;refine⟨rfl,v',i1,(hk2.mono (by simp)).trans k1,fun c hc=>?_⟩
  rcases bM.1 hc with rfl|hc
  ·exact .inl (by simp[eP])
  ·rcases bj.1 hc with hc|hc
   ·rcases b1 c (by simpa using hc) with h1|h1
    ·exact .inl (bO _ (bh _ (by simp[h1])))
    ·right;omega
   ·rw[aZ] at hc
    rcases bj.1 hc with hc|hc
    ·exact .inl (bO _ (bA _ hc))
    ·right;simp at hc;omega
theorem GR {B:Nat} {w:World} {F0:List Nat} {wb:Nat} {p8:List Words} {name key:ByteArray} {vK:Words} {done:List Words} {wr:World} {v:Value} {pre:List EF} {e:EF} {n:Nat} (g:Words)
  (h:zm B w F0 wb p8 name key vK done wr v pre e n) (hg:zp g) (hnk:dz [name,key]≤1100000) (hl:p8.length+done.length≤268435456):
  Calls Tryz.prog 64 #[.pointer (some ⟨wb,0,none⟩),.slice (some ⟨wr.heap.size,0,none⟩) g.length g.length] (wr.alloc (.cells (g.map Value.string).toArray 9)) fun r w2=>r=.returned (.tuple #[])∧
   ∃ v2 nW e2 n2,zm B w F0 wb p8 name key vK (done++[g]) w2 v2 nW e2 n2:=by
 obtain⟨rest,hrest⟩:=h.ws;have hB:=h.i.b;have hB2:=hlt h.i.hd;have hk2:af [] wr (wr.alloc (.cells (g.map Value.string).toArray 9)):=(af.refl _ wr).alloc _;have h1:=h.len;have h2:=h.sz;have h3:=h.el;have h4:=h.le;have h5:=hg.1;have h6:=hg.2;refine(Vl B wb v pre e n name key rest _ g _ (h.i.aN hk2) hrest ((qS wr g B (by omega) (by unfold maxLen;omega)).row (fun _=>rfl)) (fun _ b hb hm=>?_) h4 (by omega) (by omega) (by omega) (by omega) (by omega)).mono ?_
 ·simp[Value.ownBlock] at hb;have:=(h.i.lt b hm).2;omega
 ·rintro r w2 ⟨rfl,v2,nW,e2,n2,i2,x2,a2⟩;exact⟨rfl,v2,nW,e2,n2,h.add hg hnk i2 ((gX.of0 _ hk2).trans x2) a2⟩
theorem SJ {B:Nat} {w:World} {F0:List Nat} {wb:Nat} {p8:List Words} {name key:ByteArray} {vK:Words} {done:List Words} {wr W:World} {v:Value} {pre:List EF} {e:EF} {n:Nat} (g:Words)
  (h:zm B w F0 wb p8 name key vK done wr v pre e n) (hg:zp g) (hnk:dz [name,key]≤1100000) (hl:p8.length+done.length≤268435456) (b:Nat) (hk:af [] wr W) (hb:W.heap[b]?=some (.cells (g.map Value.string).toArray 9 (0,0))) (hfr:wr.heap.size≤b):
  Calls Tryz.prog 64 #[.pointer (some ⟨wb,0,none⟩),.slice (some ⟨b,0,none⟩) g.length g.length] W fun r w2=>r=.returned (.tuple #[])∧
   (∃ v2 nW e2 n2,zm B w F0 wb p8 name key vK (done++[g]) w2 v2 nW e2 n2)∧∀ c,wr.heap.size≤c→c<W.heap.size→w2.heap[c]?=W.heap[c]?:=by
 obtain⟨rest,hrest⟩:=h.ws;have hB:=h.i.b;have hB2:=hlt h.i.hd;have h1:=h.len;have h2:=h.sz;have h3:=h.el;have h4:=h.le;have h5:=hg.1;have h6:=hg.2
 have ho:bF b9 1 9 B W (.slice (some ⟨b,0,none⟩) g.length g.length) g:=by
  unfold bF;rw[DB];refine⟨by simp,.inr ⟨b,g.length,(g.map Value.string).toArray,rfl,by omega,hb,aq _,by unfold maxLen;omega,by simp,?_⟩⟩
  show(g.map Value.string).take (g.length*1)=_
  rw[bB];exact aE (by simp)
 refine(Vl B wb v pre e n name key rest _ g _ (h.i.aN hk) hrest (ho.row (fun _=>rfl)) (fun _ c hc hm=>?_) h4 (by omega) (by omega) (by omega) (by omega) (by omega)).mono ?_
 ·simp[Value.ownBlock] at hc;have:=(h.i.lt c hm).2;omega
 ·rintro r w2 ⟨rfl,v2,nW,e2,n2,i2,x2,a2⟩;refine⟨rfl,⟨v2,nW,e2,n2,h.add hg hnk i2 ((gX.of0 _ hk).trans x2) a2⟩,fun c hc1 hc2=>x2.k.block c hc2 (fun hm=>?_)⟩;have:=(h.i.lt c hm).2;omega
open ks (af ae hlt ah bC alloc_old aG aX aT)
theorem Nc (X:Int):∃ z:Nat,z<18446744073709551616∧IntKind.u64.wrap X=(z:Int):=⟨(IntKind.u64.wrap X).toNat,by rw[gY];omega,by rw[gY];omega⟩
theorem Nb (X:Int):∃ z:Nat,z<18446744073709551616∧Ending.returned (.int .u64 (IntKind.u64.wrap X))=.returned (.int .u64 (z:Int)):=by obtain⟨z,h,e⟩:=Nc X;exact⟨z,h,by rw[e]⟩
theorem xJ (a b:Nat) (ha:a<18446744073709551616) (hb:b<18446744073709551616):∃ z:Nat,z<18446744073709551616∧bits .xor .u64 (a:Int) (b:Int)=(z:Int):=⟨a ^^^ b,ie (n:=64) ha hb,bits_xor_u64_nat a b ha hb⟩
theorem sj (a b:Nat) (w:World) (ha:a<18446744073709551616) (hb:b<18446744073709551616):
  Calls Tryz.prog 205 #[.int .u64 (a:Int),.int .u64 (b:Int)] w fun e w'=>(∃ z:Nat,z<18446744073709551616∧e=.returned (.int .u64 (z:Int)))∧w=w':=by
 go_enter Tryz.func205,Tryz.ntmps205
 go_wp2_with fail
 go_ret;exact⟨Nb _,rfl⟩
theorem Ob (seed:Nat) (s:ByteArray) (w:World) (h1:seed<18446744073709551616) (hs:s.size≤maxLen):
  Calls Tryz.prog 166 #[.int .u64 seed,.string s] w fun e w'=>(∃ z:Nat,z<18446744073709551616∧e=.returned (.int .u64 (z:Int)))∧w=w':=by
 unfold maxLen at hs;obtain⟨b,hbl,h0⟩:=xJ 14695981039346656037 seed (by decide) h1;have h0':bits .xor .u64 14695981039346656037 (seed:Int)=(b:Int):=h0;clear h0;go_enter Tryz.func166,Tryz.ntmps166
 go_wp2_with fail
 clear h0'
 go_loop [5,11,6] (fun h i _=>∃ k z:Nat,k≤s.size∧i=.int .i64 k∧h=.int .u64 (z:Int)∧z<18446744073709551616) (fun _ i _=>s.size-(intOf i).toNat)
 case atStart=>exact⟨0,b,bz _,rfl,rfl,hbl⟩
 case round=>
  obtain⟨k,z,hk,rfl,rfl,hz⟩:=hrel
  by_cases hlt2:k<s.size
  ·obtain⟨y,hy,ey⟩:=xJ z (s[k].toNat) hz (by have:=s[k].toNat_lt;omega)
   have hwr:IntKind.u64.wrap (s[k].toNat:Int)=(s[k].toNat:Int):=by have:=s[k].toNat_lt;rw[gY];omega
   go_wp2_with (go_at_call 205;refine(sj y 1099511628211 _ hy (by decide)).mono ?_;rintro e w2 ⟨⟨y2,hy2,rfl⟩,rfl⟩)
   go_round
   case rel=>exact⟨k+1,y2,by omega,by go_num,rfl,hy2⟩
   case measure=>simp[intOf];omega
  ·obtain rfl:k=s.size:=by omega
   obtain⟨y,hy,ey⟩:=xJ z (z / 4294967296) hz (cE (gm _ _) hz);have ey2:bits .xor .u64 (z:Int) ((z:Int) / 4294967296)=(y:Int):=ey;have HX:=ks.ae (fun(m:Nat) (hm:m<18446744073709551616)=>xJ m (m / 536870912) hm (cE (gm _ _) hm));clear ey;go_wp2_with (go_at_call 205;refine(sj y 11400714819323198485 _ hy (by decide)).mono ?_;rintro e w2 ⟨⟨m,hm,rfl⟩,rfl⟩;obtain⟨r,hr,er⟩:=HX.out m hm;have er2:bits .xor .u64 (m:Int) ((m:Int) / 536870912)=(r:Int):=er;clear er)
   go_ret;exact⟨⟨r,hr,by rw[←er2];rfl⟩,rfl⟩
section
variable {α:Type} {enc:α→List Value} {k:Nat} {w:World} {a:Option Addr} {n cap:Nat} {l:List α}
theorem eh.yH (h:eh enc k w (.slice a n cap) l):n=l.length:=by
 obtain⟨a2,c2,e,_⟩:=h
 injection e
theorem eh.take (h:eh enc k w (.slice a n cap) l) (i:Nat) (hi:i≤n):eh enc k w (.slice a i cap) (l.take i):=by
 have hn:=h.yH;obtain⟨a2,c2,e,h1,h2,h3,h4⟩:=h
 injection e with e1 e2 e3
 subst e1 e3;refine⟨a,cap,by rw[aR,dB (by omega)],by rw[aR];omega,h2,h3,fun h0=>?_⟩;rw[aR] at h0;obtain⟨g,off,rfl,hc⟩:=h4 (by omega);refine⟨g,off,rfl,fun j x hx=>hc j x ?_⟩;rw[dP] at hx
 split at hx
 ·exact hx
 ·cases hx
def xC (a:Option Addr) (k i cap:Nat):Option Addr:=if cap=i then a else a.map (·.add (i*k))
theorem eh.drop (h:eh enc k w (.slice a n cap) l) (i:Nat) (hi:i≤n):eh enc k w (.slice (xC a k i cap) (n-i) (cap-i)) (l.drop i):=by
 have hn:=h.yH;obtain⟨a2,c2,e,h1,h2,h3,h4⟩:=h
 injection e with e1 e2 e3
 subst e1 e3;refine⟨xC a k i cap,cap-i,by rw[br,hn],by rw[br];omega,by omega,fun h0=>?_,fun h0=>?_⟩
 ·unfold xC at h0
  split at h0
  ·omega
  ·cases a with
   | none=>have:=h3 rfl;omega
   | some a=>cases h0
 ·rw[br] at h0;obtain⟨g,off,rfl,hc⟩:=h4 (by omega);refine⟨g,off+i*k,?_,fun j x hx p u hu=>?_⟩
  ·unfold xC;rw[aJ (by omega)];simp only[Option.map_some,iO]
  ·rw[fS] at hx;have:=hc (i+j) x hx p u hu;rw[bS] at this;rw[show off+i*k+j*k+p=off+(i*k+j*k)+p by omega];exact this
end
section
variable {P:Program} {t e:TypeId} {k:Nat} (ht:P.underlying t=some (.slice e)) (he:P.elem t=e) (hs:∀ W,(sizeOf e).run P W=.ok k W) (a:Option Addr) (n cap i:Nat)
include ht he hs
theorem CF (hi:i≤cap) (W:World):(Instr.slice t (.slice a n cap) none (some (.int .i64 (i:Int))) none).run P W=.ok (.slice a i cap) W:=by
 subst he;rw[run_slice_h W t a n cap ht .i64 (i:Int) (by omega) (by omega),hs];simp only[Result.andThen,sliced]
 congr 2
 ·split
  ·rfl
  ·cases a<;>simp[Addr.add_zero']
theorem yu (hi:i≤n) (W:World):(Instr.slice t (.slice a n cap) (some (.int .i64 (i:Int))) none none).run P W=.ok (.slice (xC a k i cap) (n-i) (cap-i)) W:=by subst he;rw[pC W t a n cap ht .i64 (i:Int) (by omega) (by omega),hs];simp only[Result.andThen,sliced,Int.toNat_natCast,xC]
end
theorem PG (a:Option Addr) (n cap i:Nat) (hi:i≤cap) (W:World):(Instr.slice 32 (.slice a n cap) none (some (.int .i64 (i:Int))) none).run Tryz.prog W=.ok (.slice a i cap) W:=CF (k:=1) Tryz.underlying32 (by kernel_rfl) (fun _=>by kernel_rfl) a n cap i hi W
theorem PF (a:Option Addr) (n cap i:Nat) (hi:i≤n) (W:World):(Instr.slice 32 (.slice a n cap) (some (.int .i64 (i:Int))) none none).run Tryz.prog W=.ok (.slice (xC a 1 i cap) (n-i) (cap-i)) W:=yu (k:=1) Tryz.underlying32 (by kernel_rfl) (fun _=>by kernel_rfl) a n cap i hi W
theorem Ve (a:Option Addr) (n cap i:Nat) (hi:i≤cap) (W:World):(Instr.slice 33 (.slice a n cap) none (some (.int .i64 (i:Int))) none).run Tryz.prog W=.ok (.slice a i cap) W:=CF (k:=2) Tryz.underlying33 (by kernel_rfl) (fun _=>by kernel_rfl) a n cap i hi W
theorem Vc (a:Option Addr) (n cap i:Nat) (hi:i≤n) (W:World):(Instr.slice 33 (.slice a n cap) (some (.int .i64 (i:Int))) none none).run Tryz.prog W=.ok (.slice (xC a 2 i cap) (n-i) (cap-i)) W:=yu (k:=2) Tryz.underlying33 (by kernel_rfl) (fun _=>by kernel_rfl) a n cap i hi W
theorem Vd (a:Option Addr) (n cap i:Nat) (hi:i≤n) (W:World):(Instr.slice 25 (.slice a n cap) (some (.int .i64 (i:Int))) none none).run Tryz.prog W=.ok (.slice (xC a 1 i cap) (n-i) (cap-i)) W:=yu (k:=1) Tryz.underlying25 (by kernel_rfl) (fun _=>by kernel_rfl) a n cap i hi W
section
variable {W:World} {ops:Array Oper} {rest:List Oper} {o:Oper} {a:Act} {Q:Exit→Act→World→Prop}
theorem Ab (hgd:o.guard=none) (s x:Operand) (ho:o.op=.call { callee:=.builtin .append,args:=#[s,x],argTypes:=#[32,32] }) (B:Nat) (v:Value) (n:Nat) (l:List ByteArray) (y:ByteArray)
  (hs:a.eval s=v) (hown:bF b9 1 9 B W v l) (hn:n=l.length) (hx:a.eval x=.slice (some ⟨W.heap.size,0,none⟩) 1 1) (h1:n≤8388608) (hB:B≤W.heap.size)
  (h:∀ g cap w',eW b9 1 9 B W w' v l y g n cap→wpList Tryz.prog ops Q rest (a.put o.dst (.slice (some ⟨g,0,none⟩) (n+1) cap)) w'):wpList Tryz.prog ops Q (o::rest) a (W.alloc (.cells #[.string y] 9)):=by
 obtain⟨i9,hi9,iV,iA,im⟩:=cF qc;exact gV hgd s x 32 ho b9 1 9 B i9 (.string ByteArray.empty) 16 Tryz.underlying32 hi9 iV iA im rfl dR v n l y hs hown hn 9 rfl 1 hx (by unfold maxLen;omega) (by omega) hB h
theorem mL (hgd:o.guard=none) (s x:Operand) (ho:o.op=.call { callee:=.builtin .append,args:=#[s,x],argTypes:=#[32,32] }) (B:Nat) (v:Value) (l ys:List ByteArray) (u:Value)
  (hs:a.eval s=v) (hown:bF b9 1 9 B W v l) (hx:a.eval x=u) (hr:eh b9 1 W u ys) (h1:l.length≤8388608) (h2:ys.length≤8388608) (hB:B≤W.heap.size)
  (h:∀ v' w',jy b9 1 9 B W w' v v' l ys→wpList Tryz.prog ops Q rest (a.put o.dst v') w'):wpList Tryz.prog ops Q (o::rest) a W:=by
 obtain⟨i9,hi9,iV,iA,im⟩:=cF qc;exact iP hgd s x 32 ho b9 1 9 B i9 (.string ByteArray.empty) 16 Tryz.underlying32 hi9 iV iA im rfl dR v l ys u hs hown hx hr (by unfold maxLen;omega) (by omega) hB h
theorem yy (hgd:o.guard=none) (s x:Operand) (ho:o.op=.call { callee:=.builtin .append,args:=#[s,x],argTypes:=#[25,25] }) (B:Nat) (v:Value) (n:Nat) (l:List EF) (y:EF)
  (hs:a.eval s=v) (hown:bF jX 1 32 B W v l) (hn:n=l.length) (hx:a.eval x=.slice (some ⟨W.heap.size,0,none⟩) 1 1) (h1:n≤8388608) (hB:B≤W.heap.size)
  (h:∀ g cap w',eW jX 1 32 B W w' v l y g n cap→wpList Tryz.prog ops Q rest (a.put o.dst (.slice (some ⟨g,0,none⟩) (n+1) cap)) w'):wpList Tryz.prog ops Q (o::rest) a (W.alloc (.cells #[fK y] 32)):=by
 obtain⟨i9,hi9,iV,iA,im⟩:=cF vz;exact gV hgd s x 25 ho jX 1 32 B i9 (.slice none 0 0) 24 Tryz.underlying25 hi9 iV iA im rfl nJ v n l y hs hown hn 32 rfl 1 hx (by unfold maxLen;omega) (by omega) hB h
theorem u6 (hgd:o.guard=none) (s x:Operand) (ho:o.op=.call { callee:=.builtin .append,args:=#[s,x],argTypes:=#[25,25] }) (B:Nat) (v:Value) (l ys:List EF) (u:Value)
  (hs:a.eval s=v) (hown:bF jX 1 32 B W v l) (hx:a.eval x=u) (hr:eh jX 1 W u ys) (h1:l.length≤8388608) (h2:ys.length≤8388608) (hB:B≤W.heap.size)
  (h:∀ v' w',jy jX 1 32 B W w' v v' l ys→wpList Tryz.prog ops Q rest (a.put o.dst v') w'):wpList Tryz.prog ops Q (o::rest) a W:=by
 obtain⟨i9,hi9,iV,iA,im⟩:=cF vz;exact iP hgd s x 25 ho jX 1 32 B i9 (.slice none 0 0) 24 Tryz.underlying25 hi9 iV iA im rfl nJ v l ys u hs hown hx hr (by unfold maxLen;omega) (by omega) hB h
theorem Bx:(Tryz.prog.info? 51).map (fun i=>(i.zero,i.size,i.bytes))=some (some (.agg #[.string ByteArray.empty,.string ByteArray.empty]),2,32):=by kernel_rfl
theorem AX (hgd:o.guard=none) (s x:Operand) (ho:o.op=.call { callee:=.builtin .append,args:=#[s,x],argTypes:=#[33,33] }) (B:Nat) (v:Value) (l ys:List (ByteArray×ByteArray)) (u:Value)
  (hs:a.eval s=v) (hown:bF gJ 2 51 B W v l) (hx:a.eval x=u) (hr:eh gJ 2 W u ys) (h1:l.length≤2097152) (h2:ys.length≤2097152) (hB:B≤W.heap.size)
  (h:∀ v' w',jy gJ 2 51 B W w' v v' l ys→wpList Tryz.prog ops Q rest (a.put o.dst v') w'):wpList Tryz.prog ops Q (o::rest) a W:=by
 obtain⟨i9,hi9,iV,iA,im⟩:=cF Bx;exact iP hgd s x 33 ho gJ 2 51 B i9 _ 32 Tryz.underlying33 hi9 iV iA im rfl qd v l ys u hs hown hx hr (by unfold maxLen;omega) (by omega) hB h
end
end jw
namespace jw
open ks (af ae hlt ah bC alloc_old aG aX aT dp)
def fQ (es:List EF):List ByteArray:=es.flatMap (fun e=>e.ws)
theorem Cw {es:List EF} {k:Nat} {e:EF} (h:es[k]?=some e):fQ (es.take (k+1))=fQ (es.take k)++e.ws:=by unfold fQ;rw[c8,h];simp
theorem Cv (es:List EF) (k:Nat):(fQ (es.take k)).length≤(fQ es).length:=by
 conv=>rhs;rw[←eH k es]
 unfold fQ;rw[gk,aM];omega
theorem Ei {es:List EF} {e:EF} (h:e∈es):e.ws.length≤(fQ es).length:=by obtain⟨a,b,rfl⟩:=List.append_of_mem h;unfold fQ;rw[gk,di,aM,aM];omega
theorem zV {es:List EF} (h:∀ e∈es,0<e.ws.length):es.length≤(fQ es).length:=by
 induction es with
 | nil=>simp
 | cons e es ih=>have h1:=h e (by simp);have h2:=ih (fun x hx=>h x (by simp[hx]));unfold fQ at *;rw[di,aM,List.length_cons];omega
structure DqD (B:Nat) (w:World) (db:Nat) (v:Value) (es:List EF):Prop where
 hd:w.heap[db]?=some (.cells #[v] 122 (0,0))
 ef:dI B w v es
 ch:∀ e∈es,e.ws.length≤32∧0<e.ws.length
 b:B≤db
theorem DqD.aN {B:Nat} {w w':World} {db:Nat} {v:Value} {es:List EF} (h:DqD B w db v es) (hk:af [] w w'):DqD B w' db v es:=⟨hk.get h.hd (by simp),h.ef.aN hk,h.ch,h.b⟩
theorem DqD.low {B:Nat} {w:World} {db:Nat} {v:Value} {es:List EF} (h:DqD B w db v es):B≤w.heap.size:=aF h.b (bW (hlt h.hd))
theorem uL {w:World} {a:Option Addr} {n cap:Nat} {es:List EF} (h:eh jX 1 w (.slice a n cap) es) (hn:0<n):∃ g off,a=some ⟨g,off,none⟩∧∀ i e,es[i]?=some e→w.cell? ⟨g,off+i,none⟩=some (fK e):=by
 have he:=h.yH;obtain⟨a2,c2,e,h1,h2,h3,h4⟩:=h
 injection e with e1 e2 e3
 subst e1;obtain⟨g,off,ha,hc⟩:=h4 (by omega);exact⟨g,off,ha,fun i e hi=>by have:=hc i e hi 0 (fK e) rfl;rwa [bB,Nat.add_zero] at this⟩
theorem JQ (B db:Nat) (v:Value) (es:List EF) (w:World) (h:DqD B w db v es) (hn:(fQ es).length≤1048576):
  Calls Tryz.prog 41 #[dp db] w fun r w'=>∃ a cap,r=.returned (.slice a (fQ es).length cap)∧bF b9 1 9 w.heap.size w' (.slice a (fQ es).length cap) (fQ es)∧af [] w w':=by
 have hr:=h.ef.row.row nJ.n;have hlen:=zV (fun e he=>(h.ch e he).2);obtain⟨a,cap,rfl,_⟩:=h.ef.row.form;obtain⟨n,hnn⟩:∃ n,es.length=n:=⟨_,rfl⟩;rw[hnn] at h hr hlen;have c0:w.cell? ⟨db,0,none⟩=some (.slice a n cap):=by rw[ah h.hd];rfl
 have H:=ae h;have HR:=ae hr;have HN:=ae hnn;have HT:=ae hn;have hnb:n≤1048576:=by omega
 clear h hr hnn hn hlen;unfold dp;go_enter Tryz.func41,Tryz.ntmps41
 go_wp2_with fail
 go_loopw [13,3,5] (fun i o _ wr=>∃ (k:Nat) (ov:Value),i=.int .i64 (k:Int)∧ov=o∧k≤n∧Hid (bF b9 1 9 w.heap.size wr ov (fQ (es.take k))∧af [] w wr)) (fun i _ _ _=>n-(intOf i).toNat)
 case atStart=>exact⟨0,_,rfl,rfl,bz _,ae ⟨bF.nil _ _ _ _ _,af.refl _ _⟩⟩
 case round=>
  obtain⟨k,ov,rfl,rfl,hk,HV⟩:=hrel
  by_cases hlt:k<n
  ·obtain⟨e,he⟩:∃ e,es[k]?=some e:=⟨_,ag (by rw[HN.out];exact hlt)⟩;obtain⟨g,off,rfl,hcc⟩:=uL HR.out (by omega);have hcx:=ak HV.out.2 (hcc k e he);have hkn:(k:Int)<(n:Int):=by omega
   have HE:=ae he;clear he hcc;unfold fK at hcx;go_wp2_with (at_builtin;refine mL rfl _ _ rfl w.heap.size ov _ e.ws (.slice (some ⟨e.g,0,none⟩) e.ws.length e.cap) rfl HV.out.1 rfl (((H.out.ef.each e (aB HE.out)).aN HV.out.2).row dR.n) (by have:=Cv es k;have:=HT.out;omega) (by have:=Ei (aB HE.out);have:=HT.out;omega) HV.out.2.size ?_;intro v' w2 hp;have HP:=ae hp;clear hp)
   go_roundw
   case rel=>exact⟨k+1,_,by go_num,rfl,by omega,ae ⟨by rw[Cw HE.out];exact HP.out.own,HV.out.2.step HP.out.bY (fun b hb=>.inr (HV.out.1.lt b (by simpa using hb)).1)⟩⟩
   case measure=>simp[intOf];omega
  ·obtain rfl:k=n:=by omega
   have sb:Hid (bF b9 1 9 w.heap.size wr ov (fQ es)∧af [] w wr):=by have:=HV.out;rw[aE (by rw[HN.out];exact aq _)] at this;exact ae this
   go_wp2_with fail
   go_ret;obtain⟨a2,c2,e2,_⟩:=sb.out.1.form;have:=sb.out;rw[e2] at this;exact⟨a2,c2,by rw[e2];rfl,this⟩
theorem M7 (ad:Option Addr) (n cap:Nat) (ts:List ByteArray) (s:ByteArray) (w:World) (h:eh b9 1 w (.slice ad n cap) ts) (hn:n≤1048576):
    Calls Tryz.prog 72 #[.slice ad n cap,.int .i64 (n:Int),.string s] w fun r w'=>∃ g c2,r=.returned (.slice (some ⟨g,0,none⟩) (n+1) c2)∧bF b9 1 9 w.heap.size w' (.slice (some ⟨g,0,none⟩) (n+1) c2) (ts++[s])∧af [] w w':=by
  have hnl:=h.yH
  have hcap:n≤cap:=by
    obtain⟨a2,c2,e,h1,_⟩:=h
    injection e with e1 e2 e3
    omega
  have e1:=PG ad n cap n hcap;have e2:=PF ad n cap n (aq _);have HD:=h.drop n (aq _);rw[dZ] at e2 HD;rw[show ts.drop n=[] from eY (by omega)] at HD;have HT:=ae h;have HD:=ae HD;have HN:=ae hnl;clear h hnl hcap;go_enter Tryz.func72,Tryz.ntmps72
  go_wp2_with (at_builtin;first
    | (have _:=K2
       refine mL rfl _ _ rfl w.heap.size (.slice (some ⟨g,0,none⟩) (ts.length+1) c) (ts++[s]) [] (.slice (xC ad 1 n cap) 0 (cap-n)) rfl jK.out.own rfl (HD.out.aN K2.out) (by have:=HN.out;simp;omega) (by simp) (by have:=K2.out.size;omega) ?_;intro v3 w3 hp;have k3:af [] w w3:=K2.out.step hp.bY (fun b hb=>.inr (jK.out.own.lt b (by simpa using hb)).1)
       have ho:bF b9 1 9 w.heap.size w3 v3 (ts++[s]):=by
         have:=hp.own
         rwa [cZ] at this
       have HO:=ae ho;have K3:=ae k3
       clear hp k3 ho)
    | (have _:=K1
       refine Ab rfl _ _ rfl w.heap.size v1 ts.length ts s rfl (by have:=HP.out.own;exact this) rfl rfl (by have:=HN.out;omega) (by have:=K1.out.size;omega) ?_;intro g c w2 hp;have k2:af [] w w2:=K1.out.step hp.bY (fun b hb=>.inr (HP.out.own.lt b (by simpa using hb)).1);have jK:=ae hp;have K2:=ae k2
       clear hp k2)
    | (refine mL rfl _ _ rfl w.heap.size _ [] ts (.slice ad n cap) rfl (bF.nil _ _ _ _ _) rfl HT.out (by simp) (by have:=HN.out;omega) (aq _) ?_
       intro v1 w1 hp;have k1:af [] w w1:=hp.bY;have HP:=ae hp;have K1:=ae k1
       clear hp k1))
  obtain⟨a4,c4,rfl,_,_,_,h5⟩:=HO.out.form;obtain⟨g4,rfl⟩:=h5 (by simp);have hl:(ts++[s]).length=n+1:=by rw[aM,←HN.out];rfl
  rw[hl] at HO;go_ret;exact⟨g4,c4,by rw[←hl];rfl,HO.out,K3.out⟩
theorem KL (B db:Nat) (v:Value) (es:List EF) (w:World) (h:DqD B w db v es) (hn:(fQ es).length≤1048576):
    Calls Tryz.prog 79 #[dp db] w fun r w'=>r=.returned (.int .i64 ((fQ es).length:Int))∧af [] w w':=by
  have HR:=ae (JQ B db v es w h hn);unfold dp at *;clear h;go_enter Tryz.func79,Tryz.ntmps79
  go_wp2_with (go_at_call 41;refine HR.out.mono ?_;rintro r w2 ⟨a,cap,rfl,h1,h2⟩;have H2:=ae h2;clear h1 h2)
  go_ret;exact⟨rfl,H2.out⟩
theorem Rm (B db:Nat) (v:Value) (es:List EF) (s:ByteArray) (w:World) (h:DqD B w db v es) (hn:(fQ es).length<1048576) (hs:s.size≤1048576):
    Calls Tryz.prog 71 #[dp db,.string s] w fun r w'=>r=.returned (.int .i64 0)∧af [] w w':=by
  have HR:=ae (KL B db v es w h (by omega));have h1:decide ((1048576:Int)<(s.size:Int))=false:=by simp;omega
  have h2:decide ((1048576:Int)≤((fQ es).length:Int))=false:=by simp;omega
  unfold dp at *;clear h;go_enter Tryz.func71,Tryz.ntmps71
  go_wp2_with (go_at_call 79;refine HR.out.mono ?_;rintro r w2 ⟨rfl,h2⟩;have H2:=ae h2;clear h2)
  go_ret;exact⟨rfl,H2.out⟩
theorem DqD.lay {B:Nat} {w:World} {db:Nat} {u v:Value} {es:List EF} (hd:w.heap[db]?=some (.cells #[u] 122 (0,0))) (he:dI B w v es) (hc:∀ e∈es,e.ws.length≤32∧0<e.ws.length) (hb:B≤db):
    DqD B (w.setCell ⟨db,0,none⟩ v) db v es:=by
  refine⟨by rw[aX hd 0 _];rfl,he.keeps ((af.refl [db] w).setCell (p:=⟨db,0,none⟩) (.inl (by simp)) _) (fun x hx hm=>?_),hc,hb⟩;simp at hm;subst hm
  rcases bj.1 hx with hx|hx
  · exact he.row.bw hd (by decide) (by simpa using hx)
  · obtain⟨e,hm,e2⟩:=aV.1 hx
    exact(he.each e hm).bw hd (by decide) (by rw[←e2];rfl)
end jw
end Go.Proofs.YthpdlidbaojlbaaGreatDoor
